/- Part 5 of the proof: the program's functions as Lean functions with their walks, and the plain law. It holds for every input, without conditions. -/
import Derived.Test.YtgbglhbdjambbaaGreatDoorProg
import Derived.Lib.AppendIntMem
import Derived.Test.YtgbglhbdjambbaaGreatDoorUvA
import Derived.Test.YtgbglhbdjambbaaGreatDoorUvB
import Derived.Test.YtgbglhbdjambbaaGreatDoorUvC
import Derived.Test.YtgbglhbdjambbaaGreatDoorUvD
set_option linter.unusedVariables false
namespace Go.Proofs.YtgbglhbdjambbaaGreatDoor
open Go Go.Am
def ZvP (o : Option Value) : Prop := ∃ m, o = some (.int .i64 m)
def ZlA (o : Option Value) : Prop := ∃ ev, o = some ev ∧ (ev = .nilIface ∨ ∃ te pe, ev = .iface te pe)
def Zsy (i : Nat) (o : Option Value) : Prop := o = some (.int .u64 ((10 ^ i : Nat) : Int))
def Zqz (o : Option Value) : Prop := o = none
def Znb : List (Nat × Nat × (Option Value → Prop)) := (3, 20, Zqz) :: (List.range 20).map fun i => (3, i, Zsy i)
def Zdx : List (Nat × Nat × (Option Value → Prop)) := [(0, 0, ZvP), (1, 0, ZlA), (2, 0, ZlA)]
instance : Gl Tryz.prog := ⟨Znb ++ Zdx⟩

def tab : Tab := [
 (2, ⟨(.int .i64), 1, 8, some [.v (.int .i64 0)], true⟩),
 (3, ⟨(.int .i64), 1, 8, some [.v (.int .i64 0)], true⟩),
 (4, ⟨.bool, 1, 1, some [.v (.bool false)], true⟩),
 (5, ⟨(.int .u8), 1, 1, some [.v (.int .u8 0)], true⟩),
 (9, ⟨.string, 1, 16, some [.v (.string ⟨#[]⟩)], true⟩),
 (12, ⟨(.int .u64), 1, 8, some [.v (.int .u64 0)], true⟩),
 (13, ⟨(.struct [(9, 0), (12, 1)]), 2, 24, some [.v (.string ⟨#[]⟩), .v (.int .u64 0)], false⟩),
 (21, ⟨(.int .i32), 1, 4, some [.v (.int .i32 0)], true⟩),
 (22, ⟨(.int .i64), 1, 8, some [.v (.int .i64 0)], true⟩),
 (23, ⟨(.slice 25), 1, 24, some [.nils], true⟩),
 (24, ⟨(.struct [(23, 0)]), 1, 24, some [.nils], true⟩),
 (25, ⟨(.struct [(23, 0)]), 1, 24, some [.nils], true⟩),
 (26, ⟨(.slice 28), 1, 24, some [.nils], true⟩),
 (27, ⟨(.struct [(22, 0), (9, 1), (25, 2), (26, 3)]), 4, 72, some [.v (.int .i64 0), .v (.string ⟨#[]⟩), .nils, .nils], true⟩),
 (28, ⟨(.struct [(22, 0), (9, 1), (25, 2), (26, 3)]), 4, 72, some [.v (.int .i64 0), .v (.string ⟨#[]⟩), .nils, .nils], true⟩),
 (31, ⟨(.slice 45), 1, 24, some [.nils], true⟩),
 (32, ⟨(.int .i64), 1, 8, some [.v (.int .i64 0)], true⟩),
 (37, ⟨(.slice 38), 1, 24, some [.nils], true⟩),
 (38, ⟨(.array 2 28), 8, 144, some [.v (.int .i64 0), .v (.string ⟨#[]⟩), .nils, .nils, .v (.int .i64 0), .v (.string ⟨#[]⟩), .nils, .nils], true⟩),
 (42, ⟨(.slice 9), 1, 24, some [.nils], true⟩),
 (44, ⟨(.struct [(9, 0), (28, 1)]), 5, 88, some [.v (.string ⟨#[]⟩), .v (.int .i64 0), .v (.string ⟨#[]⟩), .nils, .nils], true⟩),
 (45, ⟨(.struct [(9, 0), (28, 1)]), 5, 88, some [.v (.string ⟨#[]⟩), .v (.int .i64 0), .v (.string ⟨#[]⟩), .nils, .nils], true⟩),
 (53, ⟨(.ptr 56), 1, 8, some [.v (.pointer none)], true⟩),
 (54, ⟨(.map 9 3), 1, 8, some [.v (.map none)], true⟩),
 (55, ⟨(.struct [(31, 0), (54, 1)]), 2, 32, some [.nils, .v (.map none)], true⟩),
 (56, ⟨(.struct [(31, 0), (54, 1)]), 2, 32, some [.nils, .v (.map none)], true⟩),
 (67, ⟨(.map 9 4), 1, 8, some [.v (.map none)], true⟩),
 (69, ⟨(.ptr 70), 1, 8, some [.v (.pointer none)], true⟩),
 (70, ⟨(.struct [(31, 0), (54, 1)]), 2, 32, some [.nils, .v (.map none)], true⟩),
 (74, ⟨(.map 9 9), 1, 8, some [.v (.map none)], true⟩),
 (81, ⟨(.int .i64), 1, 8, some [.v (.int .i64 0)], true⟩),
 (91, ⟨(.map 9 28), 1, 8, some [.v (.map none)], true⟩),
 (106, ⟨(.map 22 3), 1, 8, some [.v (.map none)], true⟩),
 (114, ⟨.iface, 1, 16, some [.v .nilIface], false⟩),
 (118, ⟨(.slice 123), 1, 24, some [.nils], true⟩),
 (122, ⟨(.struct [(9, 0), (9, 1)]), 2, 32, some [.v (.string ⟨#[]⟩), .v (.string ⟨#[]⟩)], true⟩),
 (123, ⟨(.struct [(9, 0), (9, 1)]), 2, 32, some [.v (.string ⟨#[]⟩), .v (.string ⟨#[]⟩)], true⟩),
 (131, ⟨(.int .i64), 1, 8, some [.v (.int .i64 0)], true⟩),
 (132, ⟨(.slice 5), 1, 24, some [.nils], true⟩),
 (139, ⟨(.int .u64), 1, 8, some [.v (.int .u64 0)], true⟩),
 (146, ⟨(.int .u64), 1, 8, some [.v (.int .u64 0)], true⟩),
 (148, ⟨(.struct [(9, 0), (9, 1), (114, 2)]), 3, 48, some [.v (.string ⟨#[]⟩), .v (.string ⟨#[]⟩), .v .nilIface], false⟩),
 (155, ⟨(.int .u32), 1, 4, some [.v (.int .u32 0)], true⟩),
 (160, ⟨(.ptr 5), 1, 8, some [.v (.pointer none)], true⟩),
 (162, ⟨(.struct [(9, 0)]), 1, 16, some [.v (.string ⟨#[]⟩)], true⟩)]
set_option maxRecDepth 100000
theorem tabOk : TOk Tryz.prog tab := by unfold TOk; kernel_rfl
theorem follows : Tryz.prog.follows .mixedOrders = true := by kernel_rfl
theorem ZCY (nt : Nat) (h : nt ≤ EXT) : Zr3 Tryz.prog tab nt (@Zq1) := ZxP tabOk h follows

set_option linter.unusedSimpArgs false
set_option maxHeartbeats 4000000
set_option synthInstance.maxHeartbeats 1000000
set_option synthInstance.maxSize 1000
theorem nd {nt : Nat} (h : decide (nt ≤ EXT) = true) (c : Code) (Q : Exit → AS → Prop) (S : AS) (hk : Am.node (@Zq1) Tryz.prog tab nt c Q S) : AWP Tryz.prog nt c Q S :=
 AWP.node tabOk (of_decide_eq_true h) (ZCY nt (of_decide_eq_true h)) c Q S hk
theorem Zyf : (Tryz.prog.underlying 1000000).isNone = true := by kernel_rfl
theorem nn {nt : Nat} {c : Code} {Q : Exit → AS → Prop} {S : AS} (hk : Am.node (@Zq1) Tryz.prog tab nt c Q S) (h : decide (nt ≤ EXT) = true := by decide) : AWP Tryz.prog nt c Q S := nd h c Q S hk
theorem nw {nt : Nat} {c : Code} {Q : Exit → AS → Prop} {S : AS} {G' : Prop} (hk : G') (s : ZdT (Am.node (@Zq1) Tryz.prog tab nt c Q S) G' := by (conv => (arg 1; whnf)); exact ZdT.done) (h : decide (nt ≤ EXT) = true := by decide) : AWP Tryz.prog nt c Q S := nd h c Q S (s hk)
theorem ns {nt : Nat} {c : Code} {Q : Exit → AS → Prop} {S : AS} {G' : Prop} (hk : G') (s : ZdT (Am.node (@Zq1) Tryz.prog tab nt c Q S) G' := by
  (repeat (first | ((conv => (arg 1; whnf)); (with_reducible apply ZdT.side); (focus (first | exact Eq.refl _ | exact trivial | (with_reducible assumption) | (with_reducible exact Int.natCast_nonneg _) | exact Nat.le_of_ble_eq_true (Eq.refl true) | exact ZcV (Eq.refl _) (Eq.refl _) (Eq.refl _) | decide)))))
  (conv => (arg 1; whnf))
  exact ZdT.done) (h : decide (nt ≤ EXT) = true := by decide) : AWP Tryz.prog nt c Q S := nd h c Q S (s hk)
theorem en {f : FuncId} {fn : Func} (hf : Tryz.prog.funcs[f]? = some fn) {args : List D} {bx bx' : Zbo} {d' : D} (hk : AWP Tryz.prog fn.ntmps (Zs fn) (Zce tab fn.results (Zch d' bx')) ⟨Zdy 0 args, bx⟩)
  (hb : fn.body.isSome = true := by exact rfl) (hname : (fn.name == "runtime.NumGoroutine") = false := by decide) (hargs : args.length ≤ fn.ntmps := by exact Nat.le_of_ble_eq_true rfl) : Zk Tryz.prog f args bx fun d b => d = d' ∧ b = bx' :=
 enter tabOk hf hb hname hargs hk
mutual
inductive Zi where
 | mk (fArgs : (List Zi))
end
def Zi.fArgs : Zi → (List Zi) | .mk x => x
mutual
def Zi.cells : Zi → List E
 | .mk x0 => [.sl (Zi.encs x0)]
def Zi.encs : List Zi → List (List E)
 | [] => []
 | x :: xs => Zi.cells x :: Zi.encs xs
end
theorem Zi.encs_map : ∀ l : List Zi, Zi.encs l = l.map Zi.cells
 | [] => by simp [Zi.encs]
 | x :: xs => by simp [Zi.encs, Zi.encs_map xs]
theorem Zi.cells_eq (v : Zi) : v.cells = [.sl (v.fArgs.map Zi.cells)] := by
 cases v
 simp only [Zi.cells, List.cons_append, List.nil_append, Zi.encs_map]
 rfl
theorem Zi.cells_len (v : Zi) : v.cells.length = 1 := by rw [Zi.cells_eq]; rfl
theorem Zi.ind {M : Zi → Prop} (h : ∀ v : Zi, (∀ k ∈ v.fArgs, M k) → M v) : ∀ v, M v := by
 intro v
 exact Zi.rec (motive_1 := M) (motive_2 := fun l => ∀ k ∈ l, M k) (fun x0 ih => h _ ih) (fun k hk => by simp at hk) (fun v l hv hl k hk => by
  rcases List.mem_cons.1 hk with rfl | hk
  ·exact hv
  ·exact hl k hk) v
mutual
inductive Za where
 | mk (fOp : Int) (fName : ByteArray) (fBound : Zi) (fKids : (List Za))
end
def Za.fOp : Za → Int | .mk x _ _ _ => x
def Za.fName : Za → ByteArray | .mk _ x _ _ => x
def Za.fBound : Za → Zi | .mk _ _ x _ => x
def Za.fKids : Za → (List Za) | .mk _ _ _ x => x
mutual
def Za.cells : Za → List E
 | .mk x0 x1 x2 x3 => [.v (.int .i64 x0)] ++ [.v (.string x1)] ++ [.sl (x2.fArgs.map Zi.cells)] ++ [.sl (Za.encs x3)]
def Za.encs : List Za → List (List E)
 | [] => []
 | x :: xs => Za.cells x :: Za.encs xs
end
theorem Za.encs_map : ∀ l : List Za, Za.encs l = l.map Za.cells
 | [] => by simp [Za.encs]
 | x :: xs => by simp [Za.encs, Za.encs_map xs]
theorem Za.cells_eq (v : Za) : v.cells = [.v (.int .i64 v.fOp), .v (.string v.fName), .sl (v.fBound.fArgs.map Zi.cells), .sl (v.fKids.map Za.cells)] := by
 cases v
 simp only [Za.cells, List.cons_append, List.nil_append, Za.encs_map]
 rfl
theorem Za.cells_len (v : Za) : v.cells.length = 4 := by rw [Za.cells_eq]; rfl
theorem Za.ind {M : Za → Prop} (h : ∀ v : Za, (∀ k ∈ v.fKids, M k) → M v) : ∀ v, M v := by
 intro v
 exact Za.rec (motive_1 := M) (motive_2 := fun l => ∀ k ∈ l, M k) (fun x0 x1 x2 x3 ih => h _ ih) (fun k hk => by simp at hk) (fun v l hv hl k hk => by
  rcases List.mem_cons.1 hk with rfl | hk
  ·exact hv
  ·exact hl k hk) v
structure Zf where
 fName : ByteArray
 fType : Za
def Zf.cells (v : Zf) : List E := [.v (.string v.fName), .v (.int .i64 v.fType.fOp), .v (.string v.fType.fName), .sl (v.fType.fBound.fArgs.map Zi.cells), .sl (v.fType.fKids.map Za.cells)]
theorem Zf.cells_eq (v : Zf) : v.cells = [.v (.string v.fName), .v (.int .i64 v.fType.fOp), .v (.string v.fType.fName), .sl (v.fType.fBound.fArgs.map Zi.cells), .sl (v.fType.fKids.map Za.cells)] := rfl
theorem Zf.cells_len (v : Zf) : v.cells.length = 5 := rfl
def c_S (x : ByteArray) : List E := [.v (.string x)]
theorem ZhT (x : ByteArray) : (c_S x).length = 1 := rfl
def Zba (x : Int) : List E := [.v (.int .i64 x)]
theorem ZiH (x : Int) : (Zba x).length = 1 := rfl
structure Za6 where
 flist : (List Zf)
 fat : (List (ByteArray × Int))
structure Zr where
 flist : (List Zf)
 fat : (List (ByteArray × Int))
structure Zo where
 e0 : Za
 e1 : Za
def Zo.cells (v : Zo) : List E := [.v (.int .i64 v.e0.fOp), .v (.string v.e0.fName), .sl (v.e0.fBound.fArgs.map Zi.cells), .sl (v.e0.fKids.map Za.cells), .v (.int .i64 v.e1.fOp), .v (.string v.e1.fName), .sl (v.e1.fBound.fArgs.map Zi.cells), .sl (v.e1.fKids.map Za.cells)]
theorem Zo.cells_eq (v : Zo) : v.cells = [.v (.int .i64 v.e0.fOp), .v (.string v.e0.fName), .sl (v.e0.fBound.fArgs.map Zi.cells), .sl (v.e0.fKids.map Za.cells), .v (.int .i64 v.e1.fOp), .v (.string v.e1.fName), .sl (v.e1.fBound.fArgs.map Zi.cells), .sl (v.e1.fKids.map Za.cells)] := rfl
theorem Zo.cells_len (v : Zo) : v.cells.length = 8 := rfl
theorem Zeh : Zkj c_S := ZuK
theorem ZkP : Zkj Zba := Zy2

def strconv_Itoa.M (i : Int) (r : ByteArray) : Prop :=
 Zk Tryz.prog 113 [.c none (.v (.int .i64 i))] [] (fun d b => d = .c none (.v (.string r)) ∧ b = [])
def strings_Cut.M (s : ByteArray) (sep : ByteArray) (r : ByteArray × ByteArray × Bool) : Prop :=
 Zk Tryz.prog 140 [.c none (.v (.string s)), .c none (.v (.string sep))] [] (fun d b => d = .tup [.c (.v (.string r.1)), .c (.v (.string r.2.1)), .c (.v (.bool r.2.2))] ∧ b = [])
def strings_IndexByte.M (s : ByteArray) (c : Int) (r : Int) : Prop :=
 Zk Tryz.prog 149 [.c none (.v (.string s)), .c none (.v (.int .u8 c))] [] (fun d b => d = .c none (.v (.int .i64 r)) ∧ b = [])
def ZeK.M (s : ByteArray) (r : Int × Bool) : Prop :=
 Zk Tryz.prog 115 [.c none (.v (.string s))] [] (fun d b => d = .tup [.c (.v (.int .i64 r.1)), .c (.ifc r.2)] ∧ b = [])
def Zc2.M (s : (List ByteArray)) (r : (List ByteArray)) : Prop :=
 Zk Tryz.prog 122 [.c none (.sl (s.map c_S))] [] (fun d b => d = .c (some (0, 9)) (.sl (r.map c_S)) ∧ b = [])

open Go Go.Am Go.RowKit
theorem ZlK {P : Program} [Gl P] {f : FuncId} {args : List D} {d0 : D} (h : CallsA P f args fun d => d = d0) : Zk P f args [] fun d b => d = d0 ∧ b = [] :=
 ⟨h.1, fun w S0 M0 ZbL ρ hv hr => (h.2 w S0 M0 ZbL ρ hv hr).mono fun e w' ⟨v, r, bx', St', ρ', h1, h2, h3, h4⟩ =>
  ⟨v, r, [], St', ρ', h1, ⟨h2, rfl⟩, h3, h4.less ⟨fun i => .inr (.inl rfl), fun n cs hb => by cases hb⟩⟩⟩
theorem ZCZ {α : Type} {ZbL : Array α} (h : ZbL.size = 1) : ∃ a, ZbL = #[a] := by
 obtain ⟨l⟩ := ZbL
 match l, h with
 | [a], _ => exact ⟨a, rfl⟩
theorem ZB9 {α : Type} {ZbL : Array α} (h : ZbL.size = 2) : ∃ a b, ZbL = #[a, b] := by
 obtain ⟨l⟩ := ZbL
 match l, h with
 | [a, b], _ => exact ⟨a, b, rfl⟩
theorem Zd0 {w : World} {St : ZY} {s : Value} {x : Value} (h : Zcd w St (.v s) x) : x = s := by
 cases h; rfl
def Zqt (i : Int) : ByteArray := ⟨(Lib.itoa i).toArray⟩
def strconv_Itoa (i : Int) : Option ByteArray := Zac (-9223372036854775808 ≤ i ∧ i ≤ 9223372036854775807) >>= fun _ => some (Zqt i)
theorem ZAF (w : World) (St : ZY) (hG : ZiB Tryz.prog w St) : Lib.TabIs Tryz.prog w "internal/strconv.uint64pow10" .u64 Lib.pow10Tab := by
 have h0 : Zqz (w.cell? ⟨3, 20, none⟩) := (hG (3, 20, Zqz) (List.mem_append_left _ (List.mem_cons_self ..))).2
 have h1 : ∀ i, i < 20 → w.cell? ⟨3, i, none⟩ = some (.int .u64 ((10 ^ i : Nat) : Int)) := fun i hi =>
  (hG (3, i, Zsy i) (List.mem_append_left _ (List.mem_cons_of_mem _ (List.mem_map.2 ⟨i, List.mem_range.2 hi, rfl⟩)))).2
 have hg : Tryz.prog.globalNamed "internal/strconv.uint64pow10" = some 3 := by kernel_rfl
 unfold Lib.TabIs World.var?
 rw [hg]
 have h2 := h1 0 (by decide)
 unfold Zqz at h0
 unfold World.cell? at h0 h1 h2
 simp only [Option.bind_some]
 split at h2
 case h_2 => cases h2
 rename_i c t f hc
 simp only [hc, Option.isSome_none, Bool.false_eq_true, if_false] at h0 h1 ⊢
 congr 1
 apply Array.ext_getElem?
 intro i
 have e0 : ((Lib.pow10Tab.map fun z => Value.int .u64 z).toArray)[i]? = (Lib.pow10Tab.map fun z => Value.int .u64 z)[i]? := List.getElem?_toArray
 rw [e0, Lib.pow10Tab, List.getElem?_map, List.getElem?_map]
 by_cases hi : i < 20
 ·rw [h1 i hi, List.getElem?_range hi]; rfl
 ·have : c.size ≤ 20 := by
   rcases Nat.lt_or_ge 20 c.size with h | h
   ·rw [Array.getElem?_eq_getElem h] at h0; cases h0
   ·exact h
  rw [Array.getElem?_eq_none (by omega), List.getElem?_eq_none (by simp; omega)]; rfl
theorem Zuo (w : World) (os : Array Obj) (k : Nat) : Below w.heap.size w (Sort.grow (w.drewN k) os) := Lib.below_grow _ w (Nat.le_refl _) k os
theorem ZoP (i : Int) (r : ByteArray) (h : strconv_Itoa i = some r) : strconv_Itoa.M i r := by
 unfold strconv_Itoa at h
 obtain ⟨hc, h⟩ := ZD h
 obtain rfl := Zh h
 refine ZlK (CallsA.of_calls ⟨_, Tryz.func113, by decide, rfl⟩ fun w St ρ ZbL hv hr hlt hG => ?_)
 obtain ⟨a, rfl⟩ := ZCZ hv
 obtain rfl := Zd0 (show Zcd w St (.v (.int .i64 i)) a from (hr 0).val)
 refine (Tryz.strconv_Itoa i hc.1 hc.2 w (ZAF w St hG)).mono ?_
 rintro e w' ⟨rfl, k, os, rfl⟩
 exact ⟨_, rfl, rfl, rfl, Zuo w os k⟩
def ZvG (s : ByteArray) : Int × Bool :=
 match Lib.atoiAll s.data.toList with
 | .ok v => (v, false)
 | .range => (Lib.atoiSat s.data.toList, true)
 | _ => (0, true)
def ZeK (s : ByteArray) : Option (Int × Bool) := Zac (s.size ≤ 281474976710656) >>= fun _ => some (ZvG s)
theorem ZAO (w : World) (St : ZY) (hG : ZiB Tryz.prog w St) : ZlA (w.cell? ⟨1, 0, none⟩) ∧ ZlA (w.cell? ⟨2, 0, none⟩) :=
 ⟨(hG (1, 0, ZlA) (by first | exact List.mem_append_right _ (by simp [Zdx]) | (show _ ∈ Zdx; simp [Zdx]))).2, (hG (2, 0, ZlA) (by first | exact List.mem_append_right _ (by simp [Zdx]) | (show _ ∈ Zdx; simp [Zdx]))).2⟩
theorem ZAy {w : World} {St : ZY} {ρ : Nat → Nat} {n : Int} {b : Bool} {v : Value} (hv : (b = false ∧ v = .nilIface) ∨ (b = true ∧ ∃ t u, v = .iface t u)) : Zc8 w St ρ (.tup [.c (.v (.int .i64 n)), .c (.ifc b)]) (.tuple #[.int .i64 n, v]) := by
 refine ⟨[.int .i64 n, v], rfl, rfl, fun k x hk => ?_⟩
 match k, hk with
 | 0, hk => simp only [List.getElem?_cons_zero, Option.some.injEq] at hk; subst hk; exact ⟨_, rfl, .e _ _ (.v _ rfl)⟩
 | 1, hk => simp only [List.getElem?_cons_succ, List.getElem?_cons_zero, Option.some.injEq] at hk; subst hk; exact ⟨_, rfl, .e _ _ (.ifc b v hv)⟩
 | k + 2, hk => simp at hk
theorem Zth {w w' : World} (h : w' = w ∨ ∃ t, w' = Lib.bytesWorld w 5 t) : Below w.heap.size w w' := by
 rcases h with rfl | ⟨t, rfl⟩
 ·exact Below.refl _ _
 ·exact Lib.bytesWorld_below w 5 t
theorem strconv_Atoi_ok (s : ByteArray) (r : Int × Bool) (h : ZeK s = some r) : ZeK.M s r := by
 unfold ZeK at h
 obtain ⟨hc, h⟩ := ZD h
 obtain rfl := Zh h
 refine ZlK (CallsA.of_callsD ⟨_, Tryz.func115, by decide, rfl⟩ fun w St ρ ZbL hv hr hlt hG => ?_)
 obtain ⟨a, rfl⟩ := ZCZ hv
 obtain rfl := Zd0 (show Zcd w St (.v (.string s)) a from (hr 0).val)
 obtain ⟨⟨e3, h3, i3⟩, e4, h4, i4⟩ := ZAO w St hG
 unfold ZvG
 cases hn : Lib.atoiAll s.data.toList
 ·rename_i v
  refine (Tryz.strconv_Atoi_ok s (by omega) v hn w).mono ?_
  rintro e w' ⟨rfl, hw⟩
  exact ⟨_, _, rfl, ZAy (.inl ⟨rfl, rfl⟩), rfl, rfl, Zth hw⟩
 ·refine (Tryz.strconv_Atoi_syntax s hc (by rw [hn]; rfl) e3 w h3 i3).mono ?_
  rintro e w' ⟨N, rfl, _, _, hw⟩
  exact ⟨_, _, rfl, ZAy (.inr ⟨rfl, _, _, rfl⟩), rfl, rfl, hw⟩
 ·refine (Tryz.strconv_Atoi_range s hc hn e4 w h4 i4).mono ?_
  rintro e w' ⟨N, rfl, _, _, hw⟩
  exact ⟨_, _, rfl, ZAy (.inr ⟨rfl, _, _, rfl⟩), rfl, rfl, hw⟩
def strings_IndexByte (s : ByteArray) (c : Int) : Option Int := some (Lib.indexByte s.data.toList c.toNat.toUInt8)
theorem Zlq (s : ByteArray) (c r : Int) (h : strings_IndexByte s c = some r) : strings_IndexByte.M s c r := by
 injection h with h; subst h
 refine ZlK (CallsA.of_calls ⟨_, Tryz.func149, by decide, rfl⟩ fun w St ρ ZbL hv hr hlt hG => ?_)
 obtain ⟨a, b, rfl⟩ := ZB9 hv
 obtain rfl := Zd0 (show Zcd w St (.v (.string s)) a from (hr 0).val)
 obtain rfl := Zd0 (show Zcd w St (.v (.int .u8 c)) b from (hr 1).val)
 refine (Tryz.strings_IndexByte s c w).mono ?_
 rintro e w' ⟨rfl, rfl⟩
 exact ⟨_, rfl, rfl, rfl, Below.refl _ _⟩
def ZA8 (s sep : ByteArray) : ByteArray × ByteArray × Bool := (⟨(Lib.cut s.data.toList sep.data.toList).1.toArray⟩, ⟨(Lib.cut s.data.toList sep.data.toList).2.1.toArray⟩, (Lib.cut s.data.toList sep.data.toList).2.2)
def strings_Cut (s sep : ByteArray) : Option (ByteArray × ByteArray × Bool) := Zac (s.size < 4294967281) >>= fun _ => some (ZA8 s sep)
theorem ZEH {w : World} {St : ZY} {ρ : Nat → Nat} {a b c : Value} (ha : a.oneCell' = true) (hb : b.oneCell' = true) (hc : c.oneCell' = true) : Zc8 w St ρ (.tup [.c (.v a), .c (.v b), .c (.v c)]) (.tuple #[a, b, c]) := by
 refine ⟨[a, b, c], rfl, rfl, fun k x hk => ?_⟩
 match k, hk with
 | 0, hk => simp only [List.getElem?_cons_zero, Option.some.injEq] at hk; subst hk; exact ⟨_, rfl, .e _ _ (.v _ ha)⟩
 | 1, hk => simp only [List.getElem?_cons_succ, List.getElem?_cons_zero, Option.some.injEq] at hk; subst hk; exact ⟨_, rfl, .e _ _ (.v _ hb)⟩
 | 2, hk => simp only [List.getElem?_cons_succ, List.getElem?_cons_zero, Option.some.injEq] at hk; subst hk; exact ⟨_, rfl, .e _ _ (.v _ hc)⟩
 | k + 3, hk => simp at hk
theorem Zuz (w : World) (n : Nat) : Below w.heap.size w (w.drewN n) := ⟨rfl, rfl, rfl, Nat.le_refl _, fun _ _ => rfl⟩
theorem ZpA (s sep : ByteArray) (r : ByteArray × ByteArray × Bool) (h : strings_Cut s sep = some r) : strings_Cut.M s sep r := by
 unfold strings_Cut at h
 obtain ⟨hc, h⟩ := ZD h
 obtain rfl := Zh h
 refine ZlK (CallsA.of_callsD ⟨_, Tryz.func140, by decide, rfl⟩ fun w St ρ ZbL hv hr hlt hG => ?_)
 obtain ⟨a, b, rfl⟩ := ZB9 hv
 obtain rfl := Zd0 (show Zcd w St (.v (.string s)) a from (hr 0).val)
 obtain rfl := Zd0 (show Zcd w St (.v (.string sep)) b from (hr 1).val)
 obtain ⟨m, hm⟩ := (hG (0, 0, ZvP) (by first | exact List.mem_append_right _ (by simp [Zdx]) | (show _ ∈ Zdx; simp [Zdx]))).2
 refine (Tryz.strings_Cut s sep m w hc hm).mono ?_
 rintro e w' ⟨rfl, n, rfl⟩
 exact ⟨_, _, rfl, ZEH rfl rfl rfl, rfl, rfl, Zuz w n⟩

def Zc2 (s : List ByteArray) : Option (List ByteArray) := Zac ((0 + s.length) * 16 ≤ 140737488355328) >>= fun _ => some s
theorem ZjH (s r : List ByteArray) (hF : Zc2 s = some r) : Zc2.M s r := by
 unfold Zc2 at hF
 obtain ⟨hg, hF⟩ := ZD hF
 obtain rfl := Zh hF
 unfold Zc2.M
 refine enter tabOk Tryz.func122 rfl (by decide) (Nat.le_of_ble_eq_true rfl) ?_
 refine AWP.seq ?_
 refine ns ?_
 refine AWP.seq ?_
 refine AWP.seq ?_
 refine ns ?_
 refine And.intro (fun hnil => ?_) ?_
 ·obtain rfl : s = [] := by simpa using hnil
  refine st ?_
  refine nw ?_
  refine AWP.seq ?_
  refine ns ?_
  refine ns ?_
  refine Exists.intro [] ?_
  refine st ?_
  exact Exists.intro (rn []) (WS.mk (Zd Zmh Zb) Zc)
 ·refine st ?_
  refine nw ?_
  refine nw ?_
  refine AWP.seq ?_
  refine ns ?_
  refine Exists.intro [] (And.intro (WE.refl _) ?_)
  refine st ?_
  refine And.intro (Zc0 _ (fun x => ZhT x)) (And.intro (by have h := hg; simp only [List.length_map, List.length_append, List.length_cons, List.length_nil, Nat.zero_add] at h ⊢; first | exact h | (unfold maxLen; omega) | omega) (And.intro (by have h := hg; simp only [List.length_map, List.length_append, List.length_cons, List.length_nil, Nat.zero_add] at h ⊢; first | exact h | (unfold maxLen; omega) | omega) (Exists.intro _ (And.intro (WE.refl _) ?_))))
  refine st ?_
  refine ns ?_
  refine Exists.intro [] ?_
  refine st ?_
  exact Exists.intro (rn [(7, 0)]) (WS.mk (Zd (Zc9 rfl (WE.refl _)) Zb) Zc)

theorem Zuu : Zk Tryz.prog 124 [.c none .nils] [] (fun d b => d = .c none (.cl 138 [] [.pt 2000 0]) ∧ b = [(2000, [(none, .nils)])]) := by
 refine enter tabOk Tryz.func124 rfl (by decide) (Nat.le_of_ble_eq_true rfl) ?_
 refine AWP.seq ?_
 refine ns ?_
 refine AWP.seq ?_
 refine ns ?_
 refine ns ?_
 refine Exists.intro [(1, 2000)] ?_
 refine st ?_
 exact Exists.intro (rn []) (WS.mk (Zd (Zp (WE.refl _)) Zb) (Ze rfl (Zd3 (WE.refl _) Zg) Zc))
theorem ZsU : Zk Tryz.prog 138 [.bot, .ptr 1000 0] [(1000, [(none, .nils)])] (fun d b => d = .tup [] ∧ b = [(1000, [(none, .nils)])]) := by
 refine enter tabOk Tryz.func138 rfl (by decide) (Nat.le_of_ble_eq_true rfl) ?_
 refine AWP.seq ?_
 refine ns ?_
 refine AWP.block ?_
 refine AWP.loop ?_
 refine AWL.step ?_
 refine AWP.seq ?_
 refine AWP.seq ?_
 refine ns ?_
 refine nw ?_
 refine nw ?_
 refine Exists.intro [(1000, 1000)] ?_
 refine st ?_
 exact Exists.intro (rn []) (WS.mk (Zd (Zcg Zck) Zb) (Ze rfl (Zd3 (WE.refl _) Zg) Zc))
theorem ZuH (x : D) : Zk Tryz.prog 138 [x, .ptr 1000 0] [(1000, [(none, .nils)])] (fun d b => d = .tup [] ∧ b = [(1000, [(none, .nils)])]) :=
 Zk.weak (rn []) ZsU rfl (WS.mk (Zd ZBe (Zd ZxL Zb)) (Ze rfl (Zd3 (WE.refl _) Zg) Zc))

def ZI (x_4 : Bool) : Option (Bool) :=
 if x_4 = true then
 some true
 else
 some false
def ZI.M (x_4 : Bool) (r : Bool) : Prop :=
 AWP Tryz.prog 15 (Code.sub (Zs Tryz.f118) [1, 0, 1, 0, 1]) (Code.cont Tryz.prog 15 (Zs Tryz.f118) [1, 0, 1, 0, 1] (Zce tab Tryz.f118.results (Zch (.c none (.v (.bool r))) []))) ⟨[(4, .c none (.v (.bool x_4)))], []⟩
theorem Zad (x_4 : Bool) (r : Bool) (hF : ZI x_4 = some r) : ZI.M x_4 r := by
 unfold ZI at hF
 unfold ZI.M
 refine nw ?_
 refine Zj hF (fun Zd5 hF => ?_) (fun Zd5 hF => ?_)
 ·refine AWP.seq ?_
  refine ns ?_
  obtain rfl := Zh hF
  refine ns ?_
  refine Exists.intro [] ?_
  refine st ?_
  exact wx (WS.mk (tc Zb) Zc)
 ·refine nw ?_
  refine AWP.seq ?_
  refine ns ?_
  obtain rfl := Zh hF
  refine ns ?_
  refine Exists.intro [] ?_
  refine st ?_
  exact wx (WS.mk (tc Zb) Zc)

def Zbh (s : ByteArray) : Option (Bool) :=
 if (s.toList == (ByteArray.mk #[46, 46]).toList) = true then
 ZI (s.toList == (ByteArray.mk #[46, 46]).toList)
 else
 if (s.toList == (ByteArray.mk #[58, 58]).toList) = true then
 ZI (s.toList == (ByteArray.mk #[58, 58]).toList)
 else
 if (s.toList == (ByteArray.mk #[61]).toList) = true then
 ZI (s.toList == (ByteArray.mk #[61]).toList)
 else
 if (s.toList == (ByteArray.mk #[92]).toList) = true then
 ZI (s.toList == (ByteArray.mk #[92]).toList)
 else
 if (s.toList == (ByteArray.mk #[124]).toList) = true then
 ZI (s.toList == (ByteArray.mk #[124]).toList)
 else
 if (s.toList == (ByteArray.mk #[60, 45]).toList) = true then
 ZI (s.toList == (ByteArray.mk #[60, 45]).toList)
 else
 if (s.toList == (ByteArray.mk #[45, 62]).toList) = true then
 ZI (s.toList == (ByteArray.mk #[45, 62]).toList)
 else
 if (s.toList == (ByteArray.mk #[64]).toList) = true then
 ZI (s.toList == (ByteArray.mk #[64]).toList)
 else
 if (s.toList == (ByteArray.mk #[126]).toList) = true then
 ZI (s.toList == (ByteArray.mk #[126]).toList)
 else
 ZI (s.toList == (ByteArray.mk #[61, 62]).toList)
def Zbh.M (s : ByteArray) (r : Bool) : Prop :=
 Zk Tryz.prog 118 [.c none (.v (.string s))] [] (fun d b => d = .c none (.v (.bool r)) ∧ b = [])
theorem Zeq (s : ByteArray) (r : Bool) (hF : Zbh s = some r) : Zbh.M s r := by
 unfold Zbh at hF
 unfold Zbh.M
 refine en Tryz.func118 ?_
 refine AWP.seq ?_
 refine ns ?_
 refine AWP.seq ?_
 refine AWP.seq ?_
 refine ns ?_
 refine AWP.block ?_
 refine AWP.seq ?_
 refine AWP.seq ?_
 refine ns ?_
 refine nw ?_
 refine Zj hF (fun ZbR hF => ?_) (fun ZbR hF => ?_)
 ·refine nw ?_
  refine AWP.weak (rn []) ?_ (Zad (s.toList == (ByteArray.mk #[46, 46]).toList) _ hF)
  exact (WS.mk (tc Zb) Zc)
 ·refine AWP.seq ?_
  refine ns ?_
  refine nw ?_
  refine Zj hF (fun ZdO hF => ?_) (fun ZdO hF => ?_)
  ·refine nw ?_
   refine AWP.weak (rn []) ?_ (Zad (s.toList == (ByteArray.mk #[58, 58]).toList) _ hF)
   exact (WS.mk (tc Zb) Zc)
  ·refine AWP.seq ?_
   refine ns ?_
   refine nw ?_
   refine Zj hF (fun Zbp hF => ?_) (fun Zbp hF => ?_)
   ·refine nw ?_
    refine AWP.weak (rn []) ?_ (Zad (s.toList == (ByteArray.mk #[61]).toList) _ hF)
    exact (WS.mk (tc Zb) Zc)
   ·refine AWP.seq ?_
    refine ns ?_
    refine nw ?_
    refine Zj hF (fun Zcx hF => ?_) (fun Zcx hF => ?_)
    ·refine nw ?_
     refine AWP.weak (rn []) ?_ (Zad (s.toList == (ByteArray.mk #[92]).toList) _ hF)
     exact (WS.mk (tc Zb) Zc)
    ·refine AWP.seq ?_
     refine ns ?_
     refine nw ?_
     refine Zj hF (fun Zen hF => ?_) (fun Zen hF => ?_)
     ·refine nw ?_
      refine AWP.weak (rn []) ?_ (Zad (s.toList == (ByteArray.mk #[124]).toList) _ hF)
      exact (WS.mk (tc Zb) Zc)
     ·refine AWP.seq ?_
      refine ns ?_
      refine nw ?_
      refine Zj hF (fun Zdu hF => ?_) (fun Zdu hF => ?_)
      ·refine nw ?_
       refine AWP.weak (rn []) ?_ (Zad (s.toList == (ByteArray.mk #[60, 45]).toList) _ hF)
       exact (WS.mk (tc Zb) Zc)
      ·refine AWP.seq ?_
       refine ns ?_
       refine nw ?_
       refine Zj hF (fun Zdd hF => ?_) (fun Zdd hF => ?_)
       ·refine nw ?_
        refine AWP.weak (rn []) ?_ (Zad (s.toList == (ByteArray.mk #[45, 62]).toList) _ hF)
        exact (WS.mk (tc Zb) Zc)
       ·refine AWP.seq ?_
        refine ns ?_
        refine nw ?_
        refine Zj hF (fun ZiX hF => ?_) (fun ZiX hF => ?_)
        ·refine nw ?_
         refine AWP.weak (rn []) ?_ (Zad (s.toList == (ByteArray.mk #[64]).toList) _ hF)
         exact (WS.mk (tc Zb) Zc)
        ·refine AWP.seq ?_
         refine ns ?_
         refine nw ?_
         refine Zj hF (fun Zey hF => ?_) (fun Zey hF => ?_)
         ·refine nw ?_
          refine AWP.weak (rn []) ?_ (Zad (s.toList == (ByteArray.mk #[126]).toList) _ hF)
          exact (WS.mk (tc Zb) Zc)
         ·refine ns ?_
          refine AWP.weak (rn []) ?_ (Zad (s.toList == (ByteArray.mk #[61, 62]).toList) _ hF)
          exact (WS.mk (tc Zb) Zc)

def Zt (x_4 : Bool) : Option (Bool) :=
 if x_4 = true then
 some true
 else
 some false
def Zt.M (x_4 : Bool) (r : Bool) : Prop :=
 AWP Tryz.prog 27 (Code.sub (Zs Tryz.f117) [1, 0, 1, 0, 1]) (Code.cont Tryz.prog 27 (Zs Tryz.f117) [1, 0, 1, 0, 1] (Zce tab Tryz.f117.results (Zch (.c none (.v (.bool r))) []))) ⟨[(4, .c none (.v (.bool x_4)))], []⟩
theorem Zu (x_4 : Bool) (r : Bool) (hF : Zt x_4 = some r) : Zt.M x_4 r := by
 unfold Zt at hF
 unfold Zt.M
 refine nw ?_
 refine Zj hF (fun ZgV hF => ?_) (fun ZgV hF => ?_)
 ·refine AWP.seq ?_
  refine ns ?_
  obtain rfl := Zh hF
  refine ns ?_
  refine Exists.intro [] ?_
  refine st ?_
  exact wx (WS.mk (tc Zb) Zc)
 ·refine nw ?_
  refine AWP.seq ?_
  refine ns ?_
  obtain rfl := Zh hF
  refine ns ?_
  refine Exists.intro [] ?_
  refine st ?_
  exact wx (WS.mk (tc Zb) Zc)

def ZbZ (s : ByteArray) : Option (Bool) :=
 if (s.toList == (ByteArray.mk #[97, 115]).toList) = true then
 Zt (s.toList == (ByteArray.mk #[97, 115]).toList)
 else
 if (s.toList == (ByteArray.mk #[99, 97, 115, 101]).toList) = true then
 Zt (s.toList == (ByteArray.mk #[99, 97, 115, 101]).toList)
 else
 if (s.toList == (ByteArray.mk #[99, 108, 97, 115, 115]).toList) = true then
 Zt (s.toList == (ByteArray.mk #[99, 108, 97, 115, 115]).toList)
 else
 if (s.toList == (ByteArray.mk #[100, 97, 116, 97]).toList) = true then
 Zt (s.toList == (ByteArray.mk #[100, 97, 116, 97]).toList)
 else
 if (s.toList == (ByteArray.mk #[100, 101, 114, 105, 118, 105, 110, 103]).toList) = true then
 Zt (s.toList == (ByteArray.mk #[100, 101, 114, 105, 118, 105, 110, 103]).toList)
 else
 if (s.toList == (ByteArray.mk #[100, 111]).toList) = true then
 Zt (s.toList == (ByteArray.mk #[100, 111]).toList)
 else
 if (s.toList == (ByteArray.mk #[101, 108, 115, 101]).toList) = true then
 Zt (s.toList == (ByteArray.mk #[101, 108, 115, 101]).toList)
 else
 if (s.toList == (ByteArray.mk #[104, 105, 100, 105, 110, 103]).toList) = true then
 Zt (s.toList == (ByteArray.mk #[104, 105, 100, 105, 110, 103]).toList)
 else
 if (s.toList == (ByteArray.mk #[105, 102]).toList) = true then
 Zt (s.toList == (ByteArray.mk #[105, 102]).toList)
 else
 if (s.toList == (ByteArray.mk #[105, 109, 112, 111, 114, 116]).toList) = true then
 Zt (s.toList == (ByteArray.mk #[105, 109, 112, 111, 114, 116]).toList)
 else
 if (s.toList == (ByteArray.mk #[105, 110]).toList) = true then
 Zt (s.toList == (ByteArray.mk #[105, 110]).toList)
 else
 if (s.toList == (ByteArray.mk #[105, 110, 102, 105, 120]).toList) = true then
 Zt (s.toList == (ByteArray.mk #[105, 110, 102, 105, 120]).toList)
 else
 if (s.toList == (ByteArray.mk #[105, 110, 102, 105, 120, 108]).toList) = true then
 Zt (s.toList == (ByteArray.mk #[105, 110, 102, 105, 120, 108]).toList)
 else
 if (s.toList == (ByteArray.mk #[105, 110, 102, 105, 120, 114]).toList) = true then
 Zt (s.toList == (ByteArray.mk #[105, 110, 102, 105, 120, 114]).toList)
 else
 if (s.toList == (ByteArray.mk #[105, 110, 115, 116, 97, 110, 99, 101]).toList) = true then
 Zt (s.toList == (ByteArray.mk #[105, 110, 115, 116, 97, 110, 99, 101]).toList)
 else
 if (s.toList == (ByteArray.mk #[108, 101, 116]).toList) = true then
 Zt (s.toList == (ByteArray.mk #[108, 101, 116]).toList)
 else
 if (s.toList == (ByteArray.mk #[109, 111, 100, 117, 108, 101]).toList) = true then
 Zt (s.toList == (ByteArray.mk #[109, 111, 100, 117, 108, 101]).toList)
 else
 if (s.toList == (ByteArray.mk #[111, 102]).toList) = true then
 Zt (s.toList == (ByteArray.mk #[111, 102]).toList)
 else
 if (s.toList == (ByteArray.mk #[113, 117, 97, 108, 105, 102, 105, 101, 100]).toList) = true then
 Zt (s.toList == (ByteArray.mk #[113, 117, 97, 108, 105, 102, 105, 101, 100]).toList)
 else
 if (s.toList == (ByteArray.mk #[116, 104, 101, 110]).toList) = true then
 Zt (s.toList == (ByteArray.mk #[116, 104, 101, 110]).toList)
 else
 if (s.toList == (ByteArray.mk #[119, 104, 101, 114, 101]).toList) = true then
 Zt (s.toList == (ByteArray.mk #[119, 104, 101, 114, 101]).toList)
 else
 Zt (s.toList == (ByteArray.mk #[95]).toList)
def ZbZ.M (s : ByteArray) (r : Bool) : Prop :=
 Zk Tryz.prog 117 [.c none (.v (.string s))] [] (fun d b => d = .c none (.v (.bool r)) ∧ b = [])
theorem ZgG (s : ByteArray) (r : Bool) (hF : ZbZ s = some r) : ZbZ.M s r := by
 unfold ZbZ at hF
 unfold ZbZ.M
 refine en Tryz.func117 ?_
 refine AWP.seq ?_
 refine ns ?_
 refine AWP.seq ?_
 refine AWP.seq ?_
 refine ns ?_
 refine AWP.block ?_
 refine AWP.seq ?_
 refine AWP.seq ?_
 refine ns ?_
 refine nw ?_
 refine Zj hF (fun Zlj hF => ?_) (fun Zlj hF => ?_)
 ·refine nw ?_
  refine AWP.weak (rn []) ?_ (Zu (s.toList == (ByteArray.mk #[97, 115]).toList) _ hF)
  exact (WS.mk (tc Zb) Zc)
 ·refine AWP.seq ?_
  refine ns ?_
  refine nw ?_
  refine Zj hF (fun ZpT hF => ?_) (fun ZpT hF => ?_)
  ·refine nw ?_
   refine AWP.weak (rn []) ?_ (Zu (s.toList == (ByteArray.mk #[99, 97, 115, 101]).toList) _ hF)
   exact (WS.mk (tc Zb) Zc)
  ·refine AWP.seq ?_
   refine ns ?_
   refine nw ?_
   refine Zj hF (fun Zid hF => ?_) (fun Zid hF => ?_)
   ·refine nw ?_
    refine AWP.weak (rn []) ?_ (Zu (s.toList == (ByteArray.mk #[99, 108, 97, 115, 115]).toList) _ hF)
    exact (WS.mk (tc Zb) Zc)
   ·refine AWP.seq ?_
    refine ns ?_
    refine nw ?_
    refine Zj hF (fun Zi2 hF => ?_) (fun Zi2 hF => ?_)
    ·refine nw ?_
     refine AWP.weak (rn []) ?_ (Zu (s.toList == (ByteArray.mk #[100, 97, 116, 97]).toList) _ hF)
     exact (WS.mk (tc Zb) Zc)
    ·refine AWP.seq ?_
     refine ns ?_
     refine nw ?_
     refine Zj hF (fun ZrS hF => ?_) (fun ZrS hF => ?_)
     ·refine nw ?_
      refine AWP.weak (rn []) ?_ (Zu (s.toList == (ByteArray.mk #[100, 101, 114, 105, 118, 105, 110, 103]).toList) _ hF)
      exact (WS.mk (tc Zb) Zc)
     ·refine AWP.seq ?_
      refine ns ?_
      refine nw ?_
      refine Zj hF (fun Zxg hF => ?_) (fun Zxg hF => ?_)
      ·refine nw ?_
       refine AWP.weak (rn []) ?_ (Zu (s.toList == (ByteArray.mk #[100, 111]).toList) _ hF)
       exact (WS.mk (tc Zb) Zc)
      ·refine AWP.seq ?_
       refine ns ?_
       refine nw ?_
       refine Zj hF (fun ZlX hF => ?_) (fun ZlX hF => ?_)
       ·refine nw ?_
        refine AWP.weak (rn []) ?_ (Zu (s.toList == (ByteArray.mk #[101, 108, 115, 101]).toList) _ hF)
        exact (WS.mk (tc Zb) Zc)
       ·refine AWP.seq ?_
        refine ns ?_
        refine nw ?_
        refine Zj hF (fun ZkZ hF => ?_) (fun ZkZ hF => ?_)
        ·refine nw ?_
         refine AWP.weak (rn []) ?_ (Zu (s.toList == (ByteArray.mk #[104, 105, 100, 105, 110, 103]).toList) _ hF)
         exact (WS.mk (tc Zb) Zc)
        ·refine AWP.seq ?_
         refine ns ?_
         refine nw ?_
         refine Zj hF (fun ZtQ hF => ?_) (fun ZtQ hF => ?_)
         ·refine nw ?_
          refine AWP.weak (rn []) ?_ (Zu (s.toList == (ByteArray.mk #[105, 102]).toList) _ hF)
          exact (WS.mk (tc Zb) Zc)
         ·refine AWP.seq ?_
          refine ns ?_
          refine nw ?_
          refine Zj hF (fun Zni hF => ?_) (fun Zni hF => ?_)
          ·refine nw ?_
           refine AWP.weak (rn []) ?_ (Zu (s.toList == (ByteArray.mk #[105, 109, 112, 111, 114, 116]).toList) _ hF)
           exact (WS.mk (tc Zb) Zc)
          ·refine AWP.seq ?_
           refine ns ?_
           refine nw ?_
           refine Zj hF (fun Zn0 hF => ?_) (fun Zn0 hF => ?_)
           ·refine nw ?_
            refine AWP.weak (rn []) ?_ (Zu (s.toList == (ByteArray.mk #[105, 110]).toList) _ hF)
            exact (WS.mk (tc Zb) Zc)
           ·refine AWP.seq ?_
            refine ns ?_
            refine nw ?_
            refine Zj hF (fun ZwX hF => ?_) (fun ZwX hF => ?_)
            ·refine nw ?_
             refine AWP.weak (rn []) ?_ (Zu (s.toList == (ByteArray.mk #[105, 110, 102, 105, 120]).toList) _ hF)
             exact (WS.mk (tc Zb) Zc)
            ·refine AWP.seq ?_
             refine ns ?_
             refine nw ?_
             refine Zj hF (fun ZlM hF => ?_) (fun ZlM hF => ?_)
             ·refine nw ?_
              refine AWP.weak (rn []) ?_ (Zu (s.toList == (ByteArray.mk #[105, 110, 102, 105, 120, 108]).toList) _ hF)
              exact (WS.mk (tc Zb) Zc)
             ·refine AWP.seq ?_
              refine ns ?_
              refine nw ?_
              refine Zj hF (fun Zjf hF => ?_) (fun Zjf hF => ?_)
              ·refine nw ?_
               refine AWP.weak (rn []) ?_ (Zu (s.toList == (ByteArray.mk #[105, 110, 102, 105, 120, 114]).toList) _ hF)
               exact (WS.mk (tc Zb) Zc)
              ·refine AWP.seq ?_
               refine ns ?_
               refine nw ?_
               refine Zj hF (fun Zn5 hF => ?_) (fun Zn5 hF => ?_)
               ·refine nw ?_
                refine AWP.weak (rn []) ?_ (Zu (s.toList == (ByteArray.mk #[105, 110, 115, 116, 97, 110, 99, 101]).toList) _ hF)
                exact (WS.mk (tc Zb) Zc)
               ·refine AWP.seq ?_
                refine ns ?_
                refine nw ?_
                refine Zj hF (fun ZqX hF => ?_) (fun ZqX hF => ?_)
                ·refine nw ?_
                 refine AWP.weak (rn []) ?_ (Zu (s.toList == (ByteArray.mk #[108, 101, 116]).toList) _ hF)
                 exact (WS.mk (tc Zb) Zc)
                ·refine AWP.seq ?_
                 refine ns ?_
                 refine nw ?_
                 refine Zj hF (fun ZhP hF => ?_) (fun ZhP hF => ?_)
                 ·refine nw ?_
                  refine AWP.weak (rn []) ?_ (Zu (s.toList == (ByteArray.mk #[109, 111, 100, 117, 108, 101]).toList) _ hF)
                  exact (WS.mk (tc Zb) Zc)
                 ·refine AWP.seq ?_
                  refine ns ?_
                  refine nw ?_
                  refine Zj hF (fun Zmk hF => ?_) (fun Zmk hF => ?_)
                  ·refine nw ?_
                   refine AWP.weak (rn []) ?_ (Zu (s.toList == (ByteArray.mk #[111, 102]).toList) _ hF)
                   exact (WS.mk (tc Zb) Zc)
                  ·refine AWP.seq ?_
                   refine ns ?_
                   refine nw ?_
                   refine Zj hF (fun Zyu hF => ?_) (fun Zyu hF => ?_)
                   ·refine nw ?_
                    refine AWP.weak (rn []) ?_ (Zu (s.toList == (ByteArray.mk #[113, 117, 97, 108, 105, 102, 105, 101, 100]).toList) _ hF)
                    exact (WS.mk (tc Zb) Zc)
                   ·refine AWP.seq ?_
                    refine ns ?_
                    refine nw ?_
                    refine Zj hF (fun ZqU hF => ?_) (fun ZqU hF => ?_)
                    ·refine nw ?_
                     refine AWP.weak (rn []) ?_ (Zu (s.toList == (ByteArray.mk #[116, 104, 101, 110]).toList) _ hF)
                     exact (WS.mk (tc Zb) Zc)
                    ·refine AWP.seq ?_
                     refine ns ?_
                     refine nw ?_
                     refine Zj hF (fun Zt6 hF => ?_) (fun Zt6 hF => ?_)
                     ·refine nw ?_
                      refine AWP.weak (rn []) ?_ (Zu (s.toList == (ByteArray.mk #[119, 104, 101, 114, 101]).toList) _ hF)
                      exact (WS.mk (tc Zb) Zc)
                     ·refine ns ?_
                      refine AWP.weak (rn []) ?_ (Zu (s.toList == (ByteArray.mk #[95]).toList) _ hF)
                      exact (WS.mk (tc Zb) Zc)

def Zdq (c : Int) : Option (Bool) :=
 strings_IndexByte (ByteArray.mk #[33, 35, 36, 37, 38, 42, 43, 46, 47, 60, 61, 62, 63, 64, 92, 94, 124, 45, 126, 58]) c >>= fun r1 =>
 some (decide (r1 ≥ 0))
def Zdq.M (c : Int) (r : Bool) : Prop :=
 Zk Tryz.prog 137 [.c none (.v (.int .u8 c))] [] (fun d b => d = .c none (.v (.bool r)) ∧ b = [])
theorem Zm9 (c : Int) (r : Bool) (hF : Zdq c = some r) : Zdq.M c r := by
 unfold Zdq at hF
 unfold Zdq.M
 refine en Tryz.func137 ?_
 refine AWP.seq ?_
 refine ns ?_
 refine AWP.seq ?_
 obtain ⟨r1, hr1, hF⟩ := bind_some hF
 refine ns ?_
 refine e3 ?_
 refine st ?_
 refine cm (Zk.weak (rn []) (Zlq (ByteArray.mk #[33, 35, 36, 37, 38, 42, 43, 46, 47, 60, 61, 62, 63, 64, 92, 94, 124, 45, 126, 58]) c _ hr1) rfl (WS.mk (tc (tc Zb)) Zc)) ?_
 refine st ?_
 obtain rfl := Zh hF
 refine ns ?_
 refine Exists.intro [] ?_
 refine st ?_
 exact wx (WS.mk (tc Zb) Zc)

def ZbC (s : ByteArray) (Za9 : Nat) (i_4 : Nat) : Option (Bool) :=
 if (((i_4 : Nat) : Int) == ((s.size : Nat) : Int)) = true then
 some ((((s.size : Nat) : Int) == 1) || (decide (((Za9 : Nat) : Int) < ((s.size : Nat) : Int))))
 else
 (btI s ((i_4 : Nat) : Int)) >>= fun y69 =>
 Zdq ((y69.toNat : Nat) : Int) >>= fun r70 =>
 if (!r70) = true then
 some false
 else
 (btI s ((i_4 : Nat) : Int)) >>= fun y72 =>
 if (((y72.toNat : Nat) : Int) == 45) = true then
 Zac (Za9 + 1 ≤ 9223372036854775807) >>= fun _ =>
 Zac (i_4 + 1 ≤ 9223372036854775807) >>= fun _ =>
 ZbC s (Za9 + 1) (i_4 + 1)
 else
 Zac (i_4 + 1 ≤ 9223372036854775807) >>= fun _ =>
 ZbC s Za9 (i_4 + 1)
 partial_fixpoint
def ZbC.M (s : ByteArray) (Za9 : Nat) (i_4 : Nat) (r : Bool) : Prop :=
 AWL Tryz.prog 38 (Code.sub (Zs Tryz.f121) [1, 0, 1, 1, 1, 0, 1, 0, 0]) (Code.cont Tryz.prog 38 (Zs Tryz.f121) [1, 0, 1, 1, 1, 0, 1, 0] (Zce tab Tryz.f121.results (Zch (.c none (.v (.bool r))) []))) ⟨[(0, .c none (.v (.string s))), (3, .c none (.v (.int .i64 ((Za9 : Nat) : Int)))), (4, .c none (.v (.int .i64 ((i_4 : Nat) : Int))))], []⟩
theorem ZmN (s : ByteArray) (Za9 : Nat) (i_4 : Nat) : ∀ r, ZbC s Za9 i_4 = some r → ZbC.M s Za9 i_4 r := by
 refine ZbC.partial_correctness s (fun Za9 i_4 r => ZbC.M s Za9 i_4 r) ?_ Za9 i_4
 intro names_symbol_l1' ZhF Za9 i_4 r hF
 have Zig := fun (_s : ByteArray) (Za9 : Nat) (i_4 : Nat) => ZhF Za9 i_4
 clear ZhF
 unfold ZbC.M
 refine AWL.step ?_
 refine AWP.seq ?_
 refine AWP.block ?_
 refine AWP.seq ?_
 refine AWP.seq ?_
 refine ns ?_
 refine nw ?_
 refine Zj hF (fun Zxw hF => ?_) (fun Zxw hF => ?_)
 ·refine nw ?_
  refine AWP.seq ?_
  refine AWP.cutN (fun T => ∃ r, WS r T ⟨[(2, .c none (.v (.bool ((((s.size : Nat) : Int) == 1) || (decide (((Za9 : Nat) : Int) < ((s.size : Nat) : Int)))))))], []⟩) ?_ (fun T hw => ?_)
  ·refine ns ?_
   refine Zl false (fun ZBt => ?_) (fun ZBt => ?_)
   ·(conv => whnf)
    refine st ?_
    exact wx (WS.mk (Zd (Zp (web ZBt)) Zb) Zc)
   ·(conv => whnf)
    refine st ?_
    exact wx (WS.mk (Zd (Zp (web ZBt)) Zb) Zc)
  obtain ⟨r0, hw⟩ := hw
  (conv => whnf)
  refine AWP.weak r0 hw ?_
  obtain rfl := Zh hF
  refine ns ?_
  refine Exists.intro [] ?_
  refine st ?_
  exact wx (WS.mk (tc Zb) Zc)
 ·refine nw ?_
  refine AWP.seq ?_
  refine AWP.seq ?_
  obtain ⟨y69, hy690, ZEC, hF⟩ := Zcw hF
  obtain ⟨r70, ZDM, hF⟩ := bind_some hF
  refine nn ?_
  refine sr ZEC ?_
  refine st ?_
  refine e3 ?_
  refine st ?_
  refine cm (Zk.weak (rn []) (Zm9 ((y69.toNat : Nat) : Int) _ ZDM) rfl (WS.mk (tc Zb) Zc)) ?_
  refine st ?_
  refine nw ?_
  refine Zj hF (fun ZBy hF => ?_) (fun ZBy hF => ?_)
  ·refine AWP.seq ?_
   refine ns ?_
   obtain rfl := Zh hF
   refine ns ?_
   refine Exists.intro [] ?_
   refine st ?_
   exact wx (WS.mk (tc Zb) Zc)
  ·refine nw ?_
   refine AWP.seq ?_
   obtain ⟨y72, hy720, ZES, hF⟩ := Zcw hF
   refine nn ?_
   refine sr ZES ?_
   refine st ?_
   refine nw ?_
   refine Zj hF (fun ZFB hF => ?_) (fun ZFB hF => ?_)
   ·obtain ⟨ZBp, hF⟩ := ZD hF
    refine ns ?_
    obtain ⟨Zz5, hF⟩ := ZD hF
    refine ns ?_
    refine AWL.weak (rn []) ?_ (Zig s (Za9 + 1) (i_4 + 1) _ hF)
    exact (WS.mk (tc (Zd (Zp (Zc3 (ZcM ZBp))) (Zd (Zp (Zc3 (ZcM Zz5))) Zb))) Zc)
   ·refine nw ?_
    obtain ⟨ZDH, hF⟩ := ZD hF
    refine ns ?_
    refine AWL.weak (rn []) ?_ (Zig s Za9 (i_4 + 1) _ hF)
    exact (WS.mk (tc (tc (Zd (Zp (Zc3 (ZcM ZDH))) Zb))) Zc)

def Zdj (s : ByteArray) : Option (Bool) :=
 if ((s.toList == (ByteArray.mk #[]).toList) || (decide (((s.size : Nat) : Int) > 64))) = true then
 some false
 else
 ZbC s 0 0
def Zdj.M (s : ByteArray) (r : Bool) : Prop :=
 Zk Tryz.prog 121 [.c none (.v (.string s))] [] (fun d b => d = .c none (.v (.bool r)) ∧ b = [])
theorem ZfO (s : ByteArray) (r : Bool) (hF : Zdj s = some r) : Zdj.M s r := by
 unfold Zdj at hF
 unfold Zdj.M
 refine en Tryz.func121 ?_
 refine AWP.seq ?_
 refine ns ?_
 refine AWP.scope ?_
 refine AWP.seq ?_
 refine AWP.seq ?_
 refine AWP.cutN (fun T => ∃ r, WS r T ⟨[(0, .c none (.v (.string s))), (11, .c none (.v (.bool ((s.toList == (ByteArray.mk #[]).toList) || (decide (((s.size : Nat) : Int) > 64))))))], []⟩) ?_ (fun T hw => ?_)
 ·refine ns ?_
  refine Zl false (fun hc2 => ?_) (fun hc2 => ?_)
  ·(conv => whnf)
   refine st ?_
   exact wx (WS.mk (tc (Zd (Zp (web hc2)) Zb)) Zc)
  ·(conv => whnf)
   refine st ?_
   exact wx (WS.mk (tc (Zd (Zp (web hc2)) Zb)) Zc)
 obtain ⟨r0, hw⟩ := hw
 (conv => whnf)
 refine AWP.weak r0 hw ?_
 refine nw ?_
 refine Zj hF (fun hc3 hF => ?_) (fun hc3 hF => ?_)
 ·refine AWP.seq ?_
  refine ns ?_
  obtain rfl := Zh hF
  refine ns ?_
  refine Exists.intro [] ?_
  refine st ?_
  exact wx (WS.mk (tc Zb) Zc)
 ·refine nw ?_
  refine AWP.seq ?_
  refine ns ?_
  refine AWP.seq ?_
  refine nw ?_
  refine AWP.seq ?_
  refine AWP.seq ?_
  refine ns ?_
  refine AWP.block ?_
  refine AWP.loop ?_
  refine AWL.weak (rn []) ?_ (ZmN s 0 0 _ hF)
  exact (WS.mk (tc (tc (tc Zb))) Zc)

def ZdL (c : Int) : Option (Bool) :=
 some ((decide (c ≥ 65)) && (decide (c ≤ 90)))
def ZdL.M (c : Int) (r : Bool) : Prop :=
 Zk Tryz.prog 120 [.c none (.v (.int .u8 c))] [] (fun d b => d = .c none (.v (.bool r)) ∧ b = [])
theorem Zh8 (c : Int) (r : Bool) (hF : ZdL c = some r) : ZdL.M c r := by
 unfold ZdL at hF
 unfold ZdL.M
 refine en Tryz.func120 ?_
 refine AWP.seq ?_
 refine ns ?_
 refine AWP.seq ?_
 refine AWP.cutN (fun T => ∃ r, WS r T ⟨[(2, .c none (.v (.bool ((decide (c ≥ 65)) && (decide (c ≤ 90))))))], []⟩) ?_ (fun T hw => ?_)
 ·refine ns ?_
  refine Zl true (fun hc1 => ?_) (fun hc1 => ?_)
  ·(conv => whnf)
   refine st ?_
   exact wx (WS.mk (Zd (Zp (web hc1)) Zb) Zc)
  ·(conv => whnf)
   refine st ?_
   exact wx (WS.mk (Zd (Zp (web hc1)) Zb) Zc)
 obtain ⟨r0, hw⟩ := hw
 (conv => whnf)
 refine AWP.weak r0 hw ?_
 obtain rfl := Zh hF
 refine ns ?_
 refine Exists.intro [] ?_
 refine st ?_
 exact wx (WS.mk (tc Zb) Zc)

def ZdK (c : Int) : Option (Bool) :=
 ZdL c >>= fun r1 =>
 some (r1 || ((decide (c ≥ 97)) && (decide (c ≤ 122))))
def ZdK.M (c : Int) (r : Bool) : Prop :=
 Zk Tryz.prog 135 [.c none (.v (.int .u8 c))] [] (fun d b => d = .c none (.v (.bool r)) ∧ b = [])
theorem Zkx (c : Int) (r : Bool) (hF : ZdK c = some r) : ZdK.M c r := by
 unfold ZdK at hF
 unfold ZdK.M
 refine en Tryz.func135 ?_
 refine AWP.seq ?_
 refine ns ?_
 refine AWP.seq ?_
 obtain ⟨r1, hr1, hF⟩ := bind_some hF
 refine AWP.cutN (fun T => ∃ r, WS r T ⟨[(2, .c none (.v (.bool (r1 || ((decide (c ≥ 97)) && (decide (c ≤ 122)))))))], []⟩) ?_ (fun T hw => ?_)
 ·refine ns ?_
  refine e3 ?_
  refine st ?_
  refine cm (Zk.weak (rn []) (Zh8 c _ hr1) rfl (WS.mk (tc Zb) Zc)) ?_
  refine st ?_
  refine Zl false (fun hc2 => ?_) (fun hc2 => ?_)
  ·(conv => whnf)
   refine st ?_
   exact wx (WS.mk (Zd (Zp (web hc2)) Zb) Zc)
  ·(conv => whnf)
   refine st ?_
   refine Zl true (fun hc3 => ?_) (fun hc3 => ?_)
   ·(conv => whnf)
    refine st ?_
    exact wx (WS.mk (Zd (Zp (web (And.intro hc2 hc3))) Zb) Zc)
   ·(conv => whnf)
    refine st ?_
    exact wx (WS.mk (Zd (Zp (web (And.intro hc2 hc3))) Zb) Zc)
 obtain ⟨r0, hw⟩ := hw
 (conv => whnf)
 refine AWP.weak r0 hw ?_
 obtain rfl := Zh hF
 refine ns ?_
 refine Exists.intro [] ?_
 refine st ?_
 exact wx (WS.mk (tc Zb) Zc)

def ZeA (c : Int) : Option (Bool) :=
 some ((decide (c ≥ 48)) && (decide (c ≤ 57)))
def ZeA.M (c : Int) (r : Bool) : Prop :=
 Zk Tryz.prog 136 [.c none (.v (.int .u8 c))] [] (fun d b => d = .c none (.v (.bool r)) ∧ b = [])
theorem Zqc (c : Int) (r : Bool) (hF : ZeA c = some r) : ZeA.M c r := by
 unfold ZeA at hF
 unfold ZeA.M
 refine en Tryz.func136 ?_
 refine AWP.seq ?_
 refine ns ?_
 refine AWP.seq ?_
 refine AWP.cutN (fun T => ∃ r, WS r T ⟨[(2, .c none (.v (.bool ((decide (c ≥ 48)) && (decide (c ≤ 57))))))], []⟩) ?_ (fun T hw => ?_)
 ·refine ns ?_
  refine Zl true (fun hc1 => ?_) (fun hc1 => ?_)
  ·(conv => whnf)
   refine st ?_
   exact wx (WS.mk (Zd (Zp (web hc1)) Zb) Zc)
  ·(conv => whnf)
   refine st ?_
   exact wx (WS.mk (Zd (Zp (web hc1)) Zb) Zc)
 obtain ⟨r0, hw⟩ := hw
 (conv => whnf)
 refine AWP.weak r0 hw ?_
 obtain rfl := Zh hF
 refine ns ?_
 refine Exists.intro [] ?_
 refine st ?_
 exact wx (WS.mk (tc Zb) Zc)

def ZcC (s : ByteArray) (i_3 : Nat) : Option (Bool) :=
 if (decide (((i_3 : Nat) : Int) < ((s.size : Nat) : Int))) = true then
 (btI s ((i_3 : Nat) : Int)) >>= fun y33 =>
 ZdK ((y33.toNat : Nat) : Int) >>= fun r34 =>
 (if (!r34) = true then ZeA ((y33.toNat : Nat) : Int) >>= fun r35 =>
 some (!r35) else some false) >>= fun c36 =>
 if ((c36 && (((y33.toNat : Nat) : Int) != 95)) && (((y33.toNat : Nat) : Int) != 39)) = true then
 some false
 else
 Zac (i_3 + 1 ≤ 9223372036854775807) >>= fun _ =>
 ZcC s (i_3 + 1)
 else
 some true
 partial_fixpoint
def ZcC.M (s : ByteArray) (i_3 : Nat) (r : Bool) : Prop :=
 AWL Tryz.prog 48 (Code.sub (Zs Tryz.f119) [1, 1, 0, 1, 0, 0]) (Code.cont Tryz.prog 48 (Zs Tryz.f119) [1, 1, 0, 1, 0] (Zce tab Tryz.f119.results (Zch (.c none (.v (.bool r))) []))) ⟨[(0, .c none (.v (.string s))), (3, .c none (.v (.int .i64 ((i_3 : Nat) : Int))))], []⟩
theorem ZnO (s : ByteArray) (i_3 : Nat) : ∀ r, ZcC s i_3 = some r → ZcC.M s i_3 r := by
 refine ZcC.partial_correctness s (fun i_3 r => ZcC.M s i_3 r) ?_ i_3
 intro names_word_l1' ZiE i_3 r hF
 have ZnE := fun (_s : ByteArray) (i_3 : Nat) => ZiE i_3
 clear ZiE
 unfold ZcC.M
 refine AWL.step ?_
 refine AWP.seq ?_
 refine AWP.seq ?_
 refine ns ?_
 refine nw ?_
 refine Zj hF (fun Zni hF => ?_) (fun Zni hF => ?_)
 ·refine nw ?_
  refine AWP.seq ?_
  refine AWP.block ?_
  refine AWP.seq ?_
  obtain ⟨y33, hy330, ZDX, hF⟩ := Zcw hF
  refine nn ?_
  refine sr ZDX ?_
  refine st ?_
  refine AWP.seq ?_
  obtain ⟨r34, ZAK, hF⟩ := bind_some hF
  obtain ⟨c36, Zjf, hF⟩ := bind_some hF
  refine AWP.cutN (fun T => ∃ r, WS r T ⟨[(0, .c none (.v (.string s))), (3, .c none (.v (.int .i64 ((i_3 : Nat) : Int)))), (47, .c none (.v (.bool ((c36 && (((y33.toNat : Nat) : Int) != 95)) && (((y33.toNat : Nat) : Int) != 39)))))], []⟩) ?_ (fun T hw => ?_)
  ·refine ns ?_
   refine e3 ?_
   refine st ?_
   refine cm (Zk.weak (rn []) (Zkx ((y33.toNat : Nat) : Int) _ ZAK) rfl (WS.mk (tc Zb) Zc)) ?_
   refine st ?_
   refine Zl true (fun Zn5 => ?_) (fun Zn5 => ?_)
   ·have Zjf := ift Zn5 Zjf
    obtain ⟨r35, ZAM, Zjf⟩ := bind_some Zjf
    (conv => whnf)
    refine st ?_
    refine e3 ?_
    refine st ?_
    refine cm (Zk.weak (rn []) (Zqc ((y33.toNat : Nat) : Int) _ ZAM) rfl (WS.mk (tc Zb) Zc)) ?_
    refine st ?_
    obtain rfl := Zh Zjf
    refine st ?_
    refine Zl true (fun ZqX => ?_) (fun ZqX => ?_)
    ·(conv => whnf)
     refine st ?_
     refine Zl true (fun ZhP => ?_) (fun ZhP => ?_)
     ·(conv => whnf)
      refine st ?_
      exact wx (WS.mk (tc (tc (Zd (Zp (web (And.intro Zn5 (And.intro ZqX ZhP)))) Zb))) Zc)
     ·(conv => whnf)
      refine st ?_
      exact wx (WS.mk (tc (tc (Zd (Zp (web (And.intro Zn5 (And.intro ZqX ZhP)))) Zb))) Zc)
    ·(conv => whnf)
     refine st ?_
     exact wx (WS.mk (tc (tc (Zd (Zp (web (And.intro Zn5 ZqX))) Zb))) Zc)
   ·have Zjf := ife Zn5 Zjf
    (conv => whnf)
    obtain rfl := Zh Zjf
    refine st ?_
    exact wx (WS.mk (tc (tc (Zd (Zp (web Zn5)) Zb))) Zc)
  obtain ⟨r0, hw⟩ := hw
  (conv => whnf)
  refine AWP.weak r0 hw ?_
  refine nw ?_
  refine Zj hF (fun Zmk hF => ?_) (fun Zmk hF => ?_)
  ·refine AWP.seq ?_
   refine ns ?_
   obtain rfl := Zh hF
   refine ns ?_
   refine Exists.intro [] ?_
   refine st ?_
   exact wx (WS.mk (tc Zb) Zc)
  ·refine nw ?_
   obtain ⟨ZEv, hF⟩ := ZD hF
   refine ns ?_
   refine AWL.weak (rn []) ?_ (ZnE s (i_3 + 1) _ hF)
   exact (WS.mk (tc (Zd (Zp (Zc3 (ZcM ZEv))) Zb)) Zc)
 ·refine nw ?_
  refine AWP.seq ?_
  refine ns ?_
  obtain rfl := Zh hF
  refine ns ?_
  refine Exists.intro [] ?_
  refine st ?_
  exact wx (WS.mk (tc Zb) Zc)

def ZdU (s : ByteArray) : Option (Bool) :=
 (if ((s.toList == (ByteArray.mk #[]).toList) || (decide (((s.size : Nat) : Int) > 64))) = true then some true else (btI s 0) >>= fun y7 =>
 ZdK ((y7.toNat : Nat) : Int) >>= fun r8 =>
 (if (!r8) = true then (btI s 0) >>= fun y9 =>
 some (((y9.toNat : Nat) : Int) != 95) else some false) >>= fun c10 =>
 some c10) >>= fun c11 =>
 if c11 = true then
 some false
 else
 ZcC s 0
def ZdU.M (s : ByteArray) (r : Bool) : Prop :=
 Zk Tryz.prog 119 [.c none (.v (.string s))] [] (fun d b => d = .c none (.v (.bool r)) ∧ b = [])
theorem Zg7 (s : ByteArray) (r : Bool) (hF : ZdU s = some r) : ZdU.M s r := by
 unfold ZdU at hF
 unfold ZdU.M
 refine en Tryz.func119 ?_
 refine AWP.seq ?_
 refine ns ?_
 refine AWP.seq ?_
 refine AWP.seq ?_
 obtain ⟨c11, ZbR, hF⟩ := bind_some hF
 refine AWP.cutN (fun T => ∃ r, WS r T ⟨[(0, .c none (.v (.string s))), (22, .c none (.v (.bool c11)))], []⟩) ?_ (fun T hw => ?_)
 ·refine ns ?_
  refine Zl false (fun ZdO => ?_) (fun ZdO => ?_)
  ·(conv => whnf)
   have ZbR := ift ZdO ZbR
   obtain rfl := Zh ZbR
   refine st ?_
   exact wx (WS.mk (tc (Zd (Zp (web ZdO)) Zb)) Zc)
  ·(conv => whnf)
   refine st ?_
   refine Zl false (fun Zbp => ?_) (fun Zbp => ?_)
   ·have ZbR := ift (And.intro ZdO Zbp) ZbR
    (conv => whnf)
    obtain rfl := Zh ZbR
    refine st ?_
    exact wx (WS.mk (tc (Zd (Zp (web (And.intro ZdO Zbp))) Zb)) Zc)
   ·have ZbR := ife (And.intro ZdO Zbp) ZbR
    obtain ⟨y7, hy70, hy7, ZbR⟩ := Zcw ZbR
    obtain ⟨r8, hr8, ZbR⟩ := bind_some ZbR
    obtain ⟨c10, Zd5, ZbR⟩ := bind_some ZbR
    (conv => whnf)
    refine sr hy7 ?_
    refine st ?_
    refine e3 ?_
    refine st ?_
    refine cm (Zk.weak (rn []) (Zkx ((y7.toNat : Nat) : Int) _ hr8) rfl (WS.mk (tc Zb) Zc)) ?_
    refine st ?_
    refine Zl true (fun Zcx => ?_) (fun Zcx => ?_)
    ·have Zd5 := ift (And.intro ZdO (And.intro Zbp Zcx)) Zd5
     obtain ⟨y9, ZFz, hy9, Zd5⟩ := Zcw Zd5
     (conv => whnf)
     refine sr hy9 ?_
     obtain rfl := Zh Zd5
     obtain rfl := Zh ZbR
     refine st ?_
     exact wx (WS.mk (tc (Zd (Zp (web (And.intro ZdO (And.intro Zbp Zcx)))) Zb)) Zc)
    ·have Zd5 := ife (And.intro ZdO (And.intro Zbp Zcx)) Zd5
     (conv => whnf)
     obtain rfl := Zh Zd5
     obtain rfl := Zh ZbR
     refine st ?_
     exact wx (WS.mk (tc (Zd (Zp (web (And.intro ZdO (And.intro Zbp Zcx)))) Zb)) Zc)
 obtain ⟨r0, hw⟩ := hw
 (conv => whnf)
 refine AWP.weak r0 hw ?_
 refine nw ?_
 refine Zj hF (fun Zen hF => ?_) (fun Zen hF => ?_)
 ·refine AWP.seq ?_
  refine ns ?_
  obtain rfl := Zh hF
  refine ns ?_
  refine Exists.intro [] ?_
  refine st ?_
  exact wx (WS.mk (tc Zb) Zc)
 ·refine nw ?_
  refine AWP.seq ?_
  refine AWP.seq ?_
  refine ns ?_
  refine AWP.block ?_
  refine AWP.loop ?_
  refine AWL.weak (rn []) ?_ (ZnO s 0 _ hF)
  exact (WS.mk (tc (tc Zb)) Zc)

def ZdH (s : ByteArray) : Option (Bool) :=
 ZdU s >>= fun r1 =>
 (if r1 = true then ZbZ s >>= fun r2 =>
 some (!r2) else some false) >>= fun c3 =>
 (if c3 = true then some true else Zdj s >>= fun r4 =>
 (if r4 = true then Zbh s >>= fun r5 =>
 some (!r5) else some false) >>= fun c6 =>
 some c6) >>= fun c7 =>
 some c7
def ZdH.M (s : ByteArray) (r : Bool) : Prop :=
 Zk Tryz.prog 148 [.c none (.v (.string s))] [] (fun d b => d = .c none (.v (.bool r)) ∧ b = [])
theorem Zks (s : ByteArray) (r : Bool) (hF : ZdH s = some r) : ZdH.M s r := by
 unfold ZdH at hF
 unfold ZdH.M
 refine en Tryz.func148 ?_
 refine AWP.seq ?_
 refine ns ?_
 refine AWP.seq ?_
 obtain ⟨r1, hr1, hF⟩ := bind_some hF
 obtain ⟨c3, hc3, hF⟩ := bind_some hF
 obtain ⟨c7, hc7, hF⟩ := bind_some hF
 refine AWP.cutN (fun T => ∃ r, WS r T ⟨[(2, .c none (.v (.bool c7)))], []⟩) ?_ (fun T hw => ?_)
 ·refine ns ?_
  refine e3 ?_
  refine st ?_
  refine cm (Zk.weak (rn []) (Zg7 s _ hr1) rfl (WS.mk (tc Zb) Zc)) ?_
  refine st ?_
  refine Zl true (fun hc8 => ?_) (fun hc8 => ?_)
  ·have hc3 := ift hc8 hc3
   obtain ⟨r2, hr2, hc3⟩ := bind_some hc3
   (conv => whnf)
   refine st ?_
   refine e3 ?_
   refine st ?_
   refine cm (Zk.weak (rn []) (ZgG s _ hr2) rfl (WS.mk (tc Zb) Zc)) ?_
   refine st ?_
   obtain rfl := Zh hc3
   refine st ?_
   refine Zl false (fun hc9 => ?_) (fun hc9 => ?_)
   ·have hc7 := ift (And.intro hc8 hc9) hc7
    (conv => whnf)
    obtain rfl := Zh hc7
    refine st ?_
    exact wx (WS.mk (Zd (Zp (web (And.intro hc8 hc9))) Zb) Zc)
   ·have hc7 := ife (And.intro hc8 hc9) hc7
    obtain ⟨r4, hr4, hc7⟩ := bind_some hc7
    obtain ⟨c6, hc6, hc7⟩ := bind_some hc7
    (conv => whnf)
    refine st ?_
    refine e3 ?_
    refine st ?_
    refine cm (Zk.weak (rn []) (ZfO s _ hr4) rfl (WS.mk (tc Zb) Zc)) ?_
    refine st ?_
    refine Zl true (fun Zd5 => ?_) (fun Zd5 => ?_)
    ·have hc6 := ift (And.intro hc8 (And.intro hc9 Zd5)) hc6
     obtain ⟨r5, hr5, hc6⟩ := bind_some hc6
     (conv => whnf)
     refine st ?_
     refine e3 ?_
     refine st ?_
     refine cm (Zk.weak (rn []) (Zeq s _ hr5) rfl (WS.mk (tc Zb) Zc)) ?_
     refine st ?_
     obtain rfl := Zh hc6
     obtain rfl := Zh hc7
     refine st ?_
     exact wx (WS.mk (Zd (Zp (web (And.intro hc8 (And.intro hc9 Zd5)))) Zb) Zc)
    ·have hc6 := ife (And.intro hc8 (And.intro hc9 Zd5)) hc6
     (conv => whnf)
     obtain rfl := Zh hc6
     obtain rfl := Zh hc7
     refine st ?_
     exact wx (WS.mk (Zd (Zp (web (And.intro hc8 (And.intro hc9 Zd5)))) Zb) Zc)
  ·have hc3 := ife hc8 hc3
   (conv => whnf)
   obtain rfl := Zh hc3
   have hc7 := ife hc8 hc7
   obtain ⟨r4, hr4, hc7⟩ := bind_some hc7
   obtain ⟨c6, hc6, hc7⟩ := bind_some hc7
   refine st ?_
   refine e3 ?_
   refine st ?_
   refine cm (Zk.weak (rn []) (ZfO s _ hr4) rfl (WS.mk (tc Zb) Zc)) ?_
   refine st ?_
   refine Zl true (fun ZbR => ?_) (fun ZbR => ?_)
   ·have hc6 := ift (And.intro hc8 ZbR) hc6
    obtain ⟨r5, hr5, hc6⟩ := bind_some hc6
    (conv => whnf)
    refine st ?_
    refine e3 ?_
    refine st ?_
    refine cm (Zk.weak (rn []) (Zeq s _ hr5) rfl (WS.mk (tc Zb) Zc)) ?_
    refine st ?_
    obtain rfl := Zh hc6
    obtain rfl := Zh hc7
    refine st ?_
    exact wx (WS.mk (Zd (Zp (web (And.intro hc8 ZbR))) Zb) Zc)
   ·have hc6 := ife (And.intro hc8 ZbR) hc6
    (conv => whnf)
    obtain rfl := Zh hc6
    obtain rfl := Zh hc7
    refine st ?_
    exact wx (WS.mk (Zd (Zp (web (And.intro hc8 ZbR))) Zb) Zc)
 obtain ⟨r0, hw⟩ := hw
 (conv => whnf)
 refine AWP.weak r0 hw ?_
 obtain rfl := Zh hF
 refine ns ?_
 refine Exists.intro [] ?_
 refine st ?_
 exact wx (WS.mk (tc Zb) Zc)

def Ze7 (module : ByteArray) (name_ : ByteArray) : Option (ByteArray) :=
 ZdU module >>= fun r8 =>
 (if (!r8) = true then some true else (btI module 0) >>= fun y9 =>
 ZdL ((y9.toNat : Nat) : Int) >>= fun r10 =>
 some (!r10)) >>= fun c11 =>
 (if c11 = true then some true else ZdH name_ >>= fun r12 =>
 some (!r12)) >>= fun c13 =>
 if c13 = true then
 some (ByteArray.mk #[])
 else
 Zac (((module.size + (ByteArray.mk #[46]).size : Nat) : Int) ≤ IntKind.i64.max) >>= fun _ =>
 Zac ((((module ++ (ByteArray.mk #[46])).size + name_.size : Nat) : Int) ≤ IntKind.i64.max) >>= fun _ =>
 some ((module ++ (ByteArray.mk #[46])) ++ name_)
def Ze7.M (module : ByteArray) (name_ : ByteArray) (r : ByteArray) : Prop :=
 Zk Tryz.prog 141 [.c none (.v (.string module)), .c none (.v (.string name_))] [] (fun d b => d = .c none (.v (.string r)) ∧ b = [])
theorem ZqM (module : ByteArray) (name_ : ByteArray) (r : ByteArray) (hF : Ze7 module name_ = some r) : Ze7.M module name_ r := by
 unfold Ze7 at hF
 unfold Ze7.M
 refine en Tryz.func141 ?_
 refine AWP.seq ?_
 refine ns ?_
 refine AWP.seq ?_
 refine AWP.seq ?_
 obtain ⟨r8, hr8, hF⟩ := bind_some hF
 obtain ⟨c11, ZbR, hF⟩ := bind_some hF
 obtain ⟨c13, Zbp, hF⟩ := bind_some hF
 refine AWP.cutN (fun T => ∃ r, WS r T ⟨[(0, .c none (.v (.string module))), (1, .c none (.v (.string name_))), (18, .c none (.v (.bool c13)))], []⟩) ?_ (fun T hw => ?_)
 ·refine ns ?_
  refine e3 ?_
  refine st ?_
  refine cm (Zk.weak (rn []) (Zg7 module _ hr8) rfl (WS.mk (tc Zb) Zc)) ?_
  refine st ?_
  refine Zl false (fun Zcx => ?_) (fun Zcx => ?_)
  ·have ZbR := ift Zcx ZbR
   (conv => whnf)
   obtain rfl := Zh ZbR
   have Zbp := ift Zcx Zbp
   obtain rfl := Zh Zbp
   refine st ?_
   exact wx (WS.mk (tc (tc (Zd (Zp (web Zcx)) Zb))) Zc)
  ·have ZbR := ife Zcx ZbR
   obtain ⟨y9, ZFz, hy9, ZbR⟩ := Zcw ZbR
   obtain ⟨r10, Zqd, ZbR⟩ := bind_some ZbR
   (conv => whnf)
   refine sr hy9 ?_
   refine st ?_
   refine e3 ?_
   refine st ?_
   refine cm (Zk.weak (rn []) (Zh8 ((y9.toNat : Nat) : Int) _ Zqd) rfl (WS.mk (tc Zb) Zc)) ?_
   refine st ?_
   obtain rfl := Zh ZbR
   refine st ?_
   refine Zl false (fun Zen => ?_) (fun Zen => ?_)
   ·have Zbp := ift (And.intro Zcx Zen) Zbp
    (conv => whnf)
    obtain rfl := Zh Zbp
    refine st ?_
    exact wx (WS.mk (tc (tc (Zd (Zp (web (And.intro Zcx Zen))) Zb))) Zc)
   ·have Zbp := ife (And.intro Zcx Zen) Zbp
    obtain ⟨r12, Zsa, Zbp⟩ := bind_some Zbp
    (conv => whnf)
    refine st ?_
    refine e3 ?_
    refine st ?_
    refine cm (Zk.weak (rn []) (Zks name_ _ Zsa) rfl (WS.mk (tc Zb) Zc)) ?_
    refine st ?_
    obtain rfl := Zh Zbp
    refine st ?_
    exact wx (WS.mk (tc (tc (Zd (Zp (web (And.intro Zcx Zen))) Zb))) Zc)
 obtain ⟨r0, hw⟩ := hw
 (conv => whnf)
 refine AWP.weak r0 hw ?_
 refine nw ?_
 refine Zj hF (fun Zdu hF => ?_) (fun Zdu hF => ?_)
 ·refine AWP.seq ?_
  refine ns ?_
  obtain rfl := Zh hF
  refine ns ?_
  refine Exists.intro [] ?_
  refine st ?_
  exact wx (WS.mk (tc Zb) Zc)
 ·refine nw ?_
  refine AWP.seq ?_
  obtain ⟨ZE0, hF⟩ := ZD hF
  obtain ⟨ZDv, hF⟩ := ZD hF
  refine ns ?_
  refine And.intro ZE0 ?_
  refine st ?_
  refine And.intro ZDv ?_
  refine st ?_
  obtain rfl := Zh hF
  refine ns ?_
  refine Exists.intro [] ?_
  refine st ?_
  exact wx (WS.mk (tc Zb) Zc)

def Zeg (s : ByteArray) : Option (ByteArray × ByteArray × Bool) :=
 strings_Cut s (ByteArray.mk #[46]) >>= fun r1 =>
 (if (!r1.2.2) = true then some true else Ze7 r1.1 r1.2.1 >>= fun r5 =>
 some (r5.toList == (ByteArray.mk #[]).toList)) >>= fun c6 =>
 if c6 = true then
 some ((ByteArray.mk #[]), (ByteArray.mk #[]), false)
 else
 some (r1.1, r1.2.1, true)
def Zeg.M (s : ByteArray) (r : ByteArray × ByteArray × Bool) : Prop :=
 Zk Tryz.prog 127 [.c none (.v (.string s))] [] (fun d b => d = .tup [.c (.v (.string r.1)), .c (.v (.string r.2.1)), .c (.v (.bool r.2.2))] ∧ b = [])
theorem Zk5 (s : ByteArray) (r : ByteArray × ByteArray × Bool) (hF : Zeg s = some r) : Zeg.M s r := by
 unfold Zeg at hF
 unfold Zeg.M
 refine en Tryz.func127 ?_
 refine AWP.seq ?_
 refine ns ?_
 refine AWP.seq ?_
 obtain ⟨r1, hr1, hF⟩ := bind_some hF
 refine ns ?_
 refine e3 ?_
 refine st ?_
 refine cm (Zk.weak (rn []) (ZpA s (ByteArray.mk #[46]) _ hr1) rfl (WS.mk (tc (tc Zb)) Zc)) ?_
 refine st ?_
 refine AWP.seq ?_
 refine AWP.seq ?_
 obtain ⟨c6, hc6, hF⟩ := bind_some hF
 refine AWP.cutN (fun T => ∃ r, WS r T ⟨[(5, .c none (.v (.string r1.1))), (6, .c none (.v (.string r1.2.1))), (21, .c none (.v (.bool c6)))], []⟩) ?_ (fun T hw => ?_)
 ·refine ns ?_
  refine Zl false (fun hc7 => ?_) (fun hc7 => ?_)
  ·have hc6 := ift hc7 hc6
   (conv => whnf)
   obtain rfl := Zh hc6
   refine st ?_
   exact wx (WS.mk (tc (tc (Zd (Zp (web hc7)) Zb))) Zc)
  ·have hc6 := ife hc7 hc6
   obtain ⟨r5, hr5, hc6⟩ := bind_some hc6
   (conv => whnf)
   refine st ?_
   refine e3 ?_
   refine st ?_
   refine cm (Zk.weak (rn []) (ZqM r1.1 r1.2.1 _ hr5) rfl (WS.mk (tc (tc Zb)) Zc)) ?_
   refine st ?_
   obtain rfl := Zh hc6
   refine st ?_
   exact wx (WS.mk (tc (tc (Zd (Zp (web hc7)) Zb))) Zc)
 obtain ⟨r0, hw⟩ := hw
 (conv => whnf)
 refine AWP.weak r0 hw ?_
 refine nw ?_
 refine Zj hF (fun hc8 hF => ?_) (fun hc8 hF => ?_)
 ·refine AWP.seq ?_
  refine ns ?_
  obtain rfl := Zh hF
  refine ns ?_
  refine Exists.intro [] ?_
  refine st ?_
  exact wx (WS.mk (Zd (Zcg (ZbV (WE.refl _) (ZbV (WE.refl _) (ZbV (WE.refl _) Zck)))) Zb) Zc)
 ·refine nw ?_
  refine AWP.seq ?_
  refine ns ?_
  obtain rfl := Zh hF
  refine ns ?_
  refine Exists.intro [] ?_
  refine st ?_
  exact wx (WS.mk (Zd (Zcg (ZbV (WE.refl _) (ZbV (WE.refl _) (ZbV (WE.refl _) Zck)))) Zb) Zc)

def Zd9 (s : ByteArray) : Option (Bool) :=
 Zeg s >>= fun r1 =>
 (if r1.2.2 = true then some true else ZdH s >>= fun r2 =>
 some r2) >>= fun c3 =>
 some c3
def Zd9.M (s : ByteArray) (r : Bool) : Prop :=
 Zk Tryz.prog 134 [.c none (.v (.string s))] [] (fun d b => d = .c none (.v (.bool r)) ∧ b = [])
theorem ZoJ (s : ByteArray) (r : Bool) (hF : Zd9 s = some r) : Zd9.M s r := by
 unfold Zd9 at hF
 unfold Zd9.M
 refine en Tryz.func134 ?_
 refine AWP.seq ?_
 refine ns ?_
 refine AWP.seq ?_
 obtain ⟨r1, hr1, hF⟩ := bind_some hF
 refine ns ?_
 refine e3 ?_
 refine st ?_
 refine cm (Zk.weak (rn []) (Zk5 s _ hr1) rfl (WS.mk (tc Zb) Zc)) ?_
 refine st ?_
 refine AWP.seq ?_
 obtain ⟨c3, hc3, hF⟩ := bind_some hF
 refine AWP.cutN (fun T => ∃ r, WS r T ⟨[(2, .c none (.v (.bool c3)))], []⟩) ?_ (fun T hw => ?_)
 ·refine ns ?_
  refine Zl false (fun hc4 => ?_) (fun hc4 => ?_)
  ·have hc3 := ift hc4 hc3
   (conv => whnf)
   obtain rfl := Zh hc3
   refine st ?_
   exact wx (WS.mk (Zd (Zp (web hc4)) Zb) Zc)
  ·have hc3 := ife hc4 hc3
   obtain ⟨r2, hr2, hc3⟩ := bind_some hc3
   (conv => whnf)
   refine st ?_
   refine e3 ?_
   refine st ?_
   refine cm (Zk.weak (rn []) (Zks s _ hr2) rfl (WS.mk (tc Zb) Zc)) ?_
   refine st ?_
   obtain rfl := Zh hc3
   refine st ?_
   exact wx (WS.mk (Zd (Zp (web hc4)) Zb) Zc)
 obtain ⟨r0, hw⟩ := hw
 (conv => whnf)
 refine AWP.weak r0 hw ?_
 obtain rfl := Zh hF
 refine ns ?_
 refine Exists.intro [] ?_
 refine st ?_
 exact wx (WS.mk (tc Zb) Zc)

def Zff (base : ByteArray) (n : Int) : Option (ByteArray) :=
 (if (decide (n < 0)) = true then some true else Zd9 base >>= fun r4 =>
 some (!r4)) >>= fun c5 =>
 if c5 = true then
 some (ByteArray.mk #[])
 else
 Zac (((base.size + (ByteArray.mk #[36]).size : Nat) : Int) ≤ IntKind.i64.max) >>= fun _ =>
 strconv_Itoa n >>= fun r9 =>
 Zac ((((base ++ (ByteArray.mk #[36])).size + r9.size : Nat) : Int) ≤ IntKind.i64.max) >>= fun _ =>
 some ((base ++ (ByteArray.mk #[36])) ++ r9)
def Zff.M (base : ByteArray) (n : Int) (r : ByteArray) : Prop :=
 Zk Tryz.prog 116 [.c none (.v (.string base)), .c none (.v (.int .i64 n))] [] (fun d b => d = .c none (.v (.string r)) ∧ b = [])
theorem ZqR (base : ByteArray) (n : Int) (r : ByteArray) (hF : Zff base n = some r) : Zff.M base n r := by
 unfold Zff at hF
 unfold Zff.M
 refine en Tryz.func116 ?_
 refine AWP.seq ?_
 refine ns ?_
 refine AWP.seq ?_
 refine AWP.seq ?_
 obtain ⟨c5, hc5, hF⟩ := bind_some hF
 refine AWP.cutN (fun T => ∃ r, WS r T ⟨[(0, .c none (.v (.string base))), (1, .c none (.v (.int .i64 n))), (11, .c none (.v (.bool c5)))], []⟩) ?_ (fun T hw => ?_)
 ·refine ns ?_
  refine Zl false (fun hc6 => ?_) (fun hc6 => ?_)
  ·have hc5 := ift hc6 hc5
   (conv => whnf)
   obtain rfl := Zh hc5
   refine st ?_
   exact wx (WS.mk (tc (tc (Zd (Zp (web hc6)) Zb))) Zc)
  ·have hc5 := ife hc6 hc5
   obtain ⟨r4, hr4, hc5⟩ := bind_some hc5
   (conv => whnf)
   refine st ?_
   refine e3 ?_
   refine st ?_
   refine cm (Zk.weak (rn []) (ZoJ base _ hr4) rfl (WS.mk (tc Zb) Zc)) ?_
   refine st ?_
   obtain rfl := Zh hc5
   refine st ?_
   exact wx (WS.mk (tc (tc (Zd (Zp (web hc6)) Zb))) Zc)
 obtain ⟨r0, hw⟩ := hw
 (conv => whnf)
 refine AWP.weak r0 hw ?_
 refine nw ?_
 refine Zj hF (fun hc7 hF => ?_) (fun hc7 hF => ?_)
 ·refine AWP.seq ?_
  refine ns ?_
  obtain rfl := Zh hF
  refine ns ?_
  refine Exists.intro [] ?_
  refine st ?_
  exact wx (WS.mk (tc Zb) Zc)
 ·refine nw ?_
  refine AWP.seq ?_
  obtain ⟨hg8, hF⟩ := ZD hF
  obtain ⟨r9, hr9, hF⟩ := bind_some hF
  obtain ⟨ZyM, hF⟩ := ZD hF
  refine ns ?_
  refine And.intro hg8 ?_
  refine st ?_
  refine e3 ?_
  refine st ?_
  refine cm (Zk.weak (rn []) (ZoP n _ hr9) rfl (WS.mk (tc Zb) Zc)) ?_
  refine st ?_
  refine And.intro ZyM ?_
  refine st ?_
  obtain rfl := Zh hF
  refine ns ?_
  refine Exists.intro [] ?_
  refine st ?_
  exact wx (WS.mk (tc Zb) Zc)

def ZG (s : ByteArray) (c : Int) (i_5 : Int) : Option (Int) :=
 if (decide (i_5 ≥ 0)) = true then
 (btI s i_5) >>= fun y11 =>
 if (((y11.toNat : Nat) : Int) == c) = true then
 some i_5
 else
 ZG s c (IntKind.i64.wrap (i_5 - 1))
 else
 some (-1)
 partial_fixpoint
def ZG.M (s : ByteArray) (c : Int) (i_5 : Int) (r : Int) : Prop :=
 AWL Tryz.prog 19 (Code.sub (Zs Tryz.f131) [1, 0, 1, 0, 0]) (Code.cont Tryz.prog 19 (Zs Tryz.f131) [1, 0, 1, 0] (Zce tab Tryz.f131.results (Zch (.c none (.v (.int .i64 r))) []))) ⟨[(0, .c none (.v (.string s))), (1, .c none (.v (.int .u8 c))), (5, .c none (.v (.int .i64 i_5)))], []⟩
theorem ZfK (s : ByteArray) (c : Int) (i_5 : Int) : ∀ r, ZG s c i_5 = some r → ZG.M s c i_5 r := by
 refine ZG.partial_correctness s c (fun i_5 r => ZG.M s c i_5 r) ?_ i_5
 intro i_bytealg_LastIndexByteString_l1' ZdA i_5 r hF
 have Zfz := fun (_s : ByteArray) (_c : Int) (i_5 : Int) => ZdA i_5
 clear ZdA
 unfold ZG.M
 refine AWL.step ?_
 refine AWP.seq ?_
 refine AWP.seq ?_
 refine ns ?_
 refine nw ?_
 refine Zj hF (fun Zd5 hF => ?_) (fun Zd5 hF => ?_)
 ·refine nw ?_
  refine AWP.seq ?_
  refine AWP.block ?_
  refine AWP.seq ?_
  obtain ⟨y11, hy110, ZEI, hF⟩ := Zcw hF
  refine nn ?_
  refine sr ZEI ?_
  refine st ?_
  refine nw ?_
  refine Zj hF (fun ZdO hF => ?_) (fun ZdO hF => ?_)
  ·refine AWP.seq ?_
   refine ns ?_
   obtain rfl := Zh hF
   refine ns ?_
   refine Exists.intro [] ?_
   refine st ?_
   exact wx (WS.mk (tc Zb) Zc)
  ·refine nw ?_
   refine ns ?_
   refine AWL.weak (rn []) ?_ (Zfz s c (IntKind.i64.wrap (i_5 - 1)) _ hF)
   exact (WS.mk (tc (tc (tc Zb))) Zc)
 ·refine nw ?_
  refine AWP.seq ?_
  refine ns ?_
  obtain rfl := Zh hF
  refine ns ?_
  refine Exists.intro [] ?_
  refine st ?_
  exact wx (WS.mk (tc Zb) Zc)

def ZaA (s : ByteArray) (c : Int) : Option (Int) :=
 ZG s c (IntKind.i64.wrap (((s.size : Nat) : Int) - 1))
def ZaA.M (s : ByteArray) (c : Int) (r : Int) : Prop :=
 Zk Tryz.prog 131 [.c none (.v (.string s)), .c none (.v (.int .u8 c))] [] (fun d b => d = .c none (.v (.int .i64 r)) ∧ b = [])
theorem Zgi (s : ByteArray) (c : Int) (r : Int) (hF : ZaA s c = some r) : ZaA.M s c r := by
 unfold ZaA at hF
 unfold ZaA.M
 refine en Tryz.func131 ?_
 refine AWP.seq ?_
 refine ns ?_
 refine AWP.seq ?_
 refine AWP.seq ?_
 refine ns ?_
 refine AWP.block ?_
 refine AWP.loop ?_
 refine AWL.weak (rn []) ?_ (ZfK s c (IntKind.i64.wrap (((s.size : Nat) : Int) - 1)) _ hF)
 exact (WS.mk (tc (tc (tc Zb))) Zc)

def Zbx (s : ByteArray) (c : Int) : Option (Int) :=
 ZaA s c >>= fun r1 =>
 some r1
def Zbx.M (s : ByteArray) (c : Int) (r : Int) : Prop :=
 Zk Tryz.prog 114 [.c none (.v (.string s)), .c none (.v (.int .u8 c))] [] (fun d b => d = .c none (.v (.int .i64 r)) ∧ b = [])
theorem Zi0 (s : ByteArray) (c : Int) (r : Int) (hF : Zbx s c = some r) : Zbx.M s c r := by
 unfold Zbx at hF
 unfold Zbx.M
 refine en Tryz.func114 ?_
 refine AWP.seq ?_
 refine ns ?_
 refine AWP.seq ?_
 obtain ⟨r1, hr1, hF⟩ := bind_some hF
 refine ns ?_
 refine e3 ?_
 refine st ?_
 refine cm (Zk.weak (rn []) (Zgi s c _ hr1) rfl (WS.mk (tc (tc Zb)) Zc)) ?_
 refine st ?_
 obtain rfl := Zh hF
 refine ns ?_
 refine Exists.intro [] ?_
 refine st ?_
 exact wx (WS.mk (tc Zb) Zc)

def Zek (s : ByteArray) : Option (ByteArray × Int × Bool) :=
 Zbx s 36 >>= fun r1 =>
 if (decide (r1 < 0)) = true then
 some ((ByteArray.mk #[]), 0, false)
 else
 (slS s (IntKind.i64.wrap (r1 + 1)) ((s.size : Nat) : Int)) >>= fun z4 =>
 ZeK z4 >>= fun r5 =>
 (if r5.2 = true then some true else (slS s ((0 : Nat) : Int) r1) >>= fun z10 =>
 Zff z10 r5.1 >>= fun r11 =>
 some (!(r11.toList == s.toList))) >>= fun c12 =>
 if c12 = true then
 some ((ByteArray.mk #[]), 0, false)
 else
 (slS s ((0 : Nat) : Int) r1) >>= fun z15 =>
 some (z15, r5.1, true)
def Zek.M (s : ByteArray) (r : ByteArray × Int × Bool) : Prop :=
 Zk Tryz.prog 92 [.c none (.v (.string s))] [] (fun d b => d = .tup [.c (.v (.string r.1)), .c (.v (.int .i64 r.2.1)), .c (.v (.bool r.2.2))] ∧ b = [])
theorem ZiV (s : ByteArray) (r : ByteArray × Int × Bool) (hF : Zek s = some r) : Zek.M s r := by
 unfold Zek at hF
 unfold Zek.M
 refine en Tryz.func92 ?_
 refine AWP.seq ?_
 refine ns ?_
 refine AWP.seq ?_
 obtain ⟨r1, hr1, hF⟩ := bind_some hF
 refine ns ?_
 refine e3 ?_
 refine st ?_
 refine cm (Zk.weak (rn []) (Zi0 s 36 _ hr1) rfl (WS.mk (tc (tc Zb)) Zc)) ?_
 refine st ?_
 refine AWP.seq ?_
 refine AWP.seq ?_
 refine ns ?_
 refine nw ?_
 refine Zj hF (fun hc3 hF => ?_) (fun hc3 hF => ?_)
 ·refine AWP.seq ?_
  refine ns ?_
  obtain rfl := Zh hF
  refine ns ?_
  refine Exists.intro [] ?_
  refine st ?_
  exact wx (WS.mk (Zd (Zcg (ZbV (WE.refl _) (ZbV (WE.refl _) (ZbV (WE.refl _) Zck)))) Zb) Zc)
 ·refine nw ?_
  refine AWP.seq ?_
  obtain ⟨z4, ZDT, ZBT, ZED, hz4, hF⟩ := Ze6 hF
  obtain ⟨r5, hr5, hF⟩ := bind_some hF
  refine nn ?_
  refine s3 ZDT ZBT ZED ?_
  rw [← hz4]
  refine st ?_
  refine e3 ?_
  refine st ?_
  refine cm (Zk.weak (rn []) (strconv_Atoi_ok z4 _ hr5) rfl (WS.mk (tc Zb) Zc)) ?_
  refine st ?_
  refine AWP.seq ?_
  refine AWP.seq ?_
  obtain ⟨c12, ZdO, hF⟩ := bind_some hF
  refine AWP.cutN (fun T => ∃ r, WS r T ⟨[(0, .c none (.v (.string s))), (3, .c none (.v (.int .i64 r5.1))), (5, .c none (.v (.int .i64 r1))), (29, .c none (.v (.bool c12)))], []⟩) ?_ (fun T hw => ?_)
  ·refine ns ?_
   refine Zl false (fun Zbp => ?_) (fun Zbp => ?_)
   ·have ZdO := ift Zbp ZdO
    (conv => whnf)
    obtain rfl := Zh ZdO
    refine st ?_
    exact wx (WS.mk (tc (tc (tc (Zd (Zp (web Zbp)) Zb)))) Zc)
   ·have ZdO := ife Zbp ZdO
    obtain ⟨z10, ZCJ, ZCL, ZDe, ZFk, ZdO⟩ := Ze6 ZdO
    obtain ⟨r11, ZrK, ZdO⟩ := bind_some ZdO
    (conv => whnf)
    refine s3 ZCJ ZCL ZDe ?_
    rw [← ZFk]
    refine st ?_
    refine e3 ?_
    refine st ?_
    refine cm (Zk.weak (rn []) (ZqR z10 r5.1 _ ZrK) rfl (WS.mk (tc (tc Zb)) Zc)) ?_
    refine st ?_
    obtain rfl := Zh ZdO
    refine st ?_
    exact wx (WS.mk (tc (tc (tc (Zd (Zp (web Zbp)) Zb)))) Zc)
  obtain ⟨r0, hw⟩ := hw
  (conv => whnf)
  refine AWP.weak r0 hw ?_
  refine nw ?_
  refine Zj hF (fun Zcx hF => ?_) (fun Zcx hF => ?_)
  ·refine AWP.seq ?_
   refine ns ?_
   obtain rfl := Zh hF
   refine ns ?_
   refine Exists.intro [] ?_
   refine st ?_
   exact wx (WS.mk (Zd (Zcg (ZbV (WE.refl _) (ZbV (WE.refl _) (ZbV (WE.refl _) Zck)))) Zb) Zc)
  ·refine nw ?_
   refine AWP.seq ?_
   obtain ⟨z15, ZDl, ZDp, ZBV, ZEa, hF⟩ := Ze6 hF
   refine nn ?_
   refine s3 ZDl ZDp ZBV ?_
   rw [← ZEa]
   refine st ?_
   obtain rfl := Zh hF
   refine ns ?_
   refine Exists.intro [] ?_
   refine st ?_
   exact wx (WS.mk (Zd (Zcg (ZbV (WE.refl _) (ZbV (WE.refl _) (ZbV (WE.refl _) Zck)))) Zb) Zc)

def ZcD (s : ByteArray) : Option (Int) :=
 ZbZ s >>= fun r18 =>
 if r18 = true then
 some 5
 else
 Zbh s >>= fun r20 =>
 if r20 = true then
 some 6
 else
 ZdU s >>= fun r22 =>
 (if r22 = true then (btI s 0) >>= fun y23 =>
 ZdL ((y23.toNat : Nat) : Int) >>= fun r24 =>
 some r24 else some false) >>= fun c25 =>
 if c25 = true then
 some 2
 else
 ZdU s >>= fun r28 =>
 if r28 = true then
 some 1
 else
 Zdj s >>= fun r30 =>
 (if r30 = true then (btI s 0) >>= fun y31 =>
 some (((y31.toNat : Nat) : Int) == 58) else some false) >>= fun c32 =>
 if c32 = true then
 some 4
 else
 Zdj s >>= fun r35 =>
 if r35 = true then
 some 3
 else
 Zek s >>= fun r37 =>
 if r37.2.2 = true then
 some 7
 else
 some 0
def ZcD.M (s : ByteArray) (r : Int) : Prop :=
 Zk Tryz.prog 93 [.c none (.v (.string s))] [] (fun d b => d = .c none (.v (.int .i64 r)) ∧ b = [])
theorem Zgt (s : ByteArray) (r : Int) (hF : ZcD s = some r) : ZcD.M s r := by
 unfold ZcD at hF
 unfold ZcD.M
 refine en Tryz.func93 ?_
 refine AWP.seq ?_
 refine ns ?_
 refine AWP.seq ?_
 refine AWP.block ?_
 refine AWP.seq ?_
 obtain ⟨r18, ZyV, hF⟩ := bind_some hF
 refine ns ?_
 refine e3 ?_
 refine st ?_
 refine cm (Zk.weak (rn []) (ZgG s _ ZyV) rfl (WS.mk (tc Zb) Zc)) ?_
 refine st ?_
 refine nw ?_
 refine Zj hF (fun Zey hF => ?_) (fun Zey hF => ?_)
 ·refine AWP.seq ?_
  refine ns ?_
  obtain rfl := Zh hF
  refine ns ?_
  refine Exists.intro [] ?_
  refine st ?_
  exact wx (WS.mk (tc Zb) Zc)
 ·refine AWP.seq ?_
  obtain ⟨r20, ZBK, hF⟩ := bind_some hF
  refine ns ?_
  refine e3 ?_
  refine st ?_
  refine cm (Zk.weak (rn []) (Zeq s _ ZBK) rfl (WS.mk (tc Zb) Zc)) ?_
  refine st ?_
  refine nw ?_
  refine Zj hF (fun ZfX hF => ?_) (fun ZfX hF => ?_)
  ·refine AWP.seq ?_
   refine ns ?_
   obtain rfl := Zh hF
   refine ns ?_
   refine Exists.intro [] ?_
   refine st ?_
   exact wx (WS.mk (tc Zb) Zc)
  ·refine AWP.seq ?_
   obtain ⟨r22, Zt3, hF⟩ := bind_some hF
   obtain ⟨c25, Zid, hF⟩ := bind_some hF
   refine AWP.cutN (fun T => ∃ r, WS r T ⟨[(0, .c none (.v (.string s))), (12, .c none (.v (.bool c25)))], []⟩) ?_ (fun T hw => ?_)
   ·refine ns ?_
    refine e3 ?_
    refine st ?_
    refine cm (Zk.weak (rn []) (Zg7 s _ Zt3) rfl (WS.mk (tc Zb) Zc)) ?_
    refine st ?_
    refine Zl true (fun Zi2 => ?_) (fun Zi2 => ?_)
    ·have Zid := ift Zi2 Zid
     obtain ⟨y23, hy230, ZFA, Zid⟩ := Zcw Zid
     obtain ⟨r24, ZBN, Zid⟩ := bind_some Zid
     (conv => whnf)
     refine sr ZFA ?_
     refine st ?_
     refine e3 ?_
     refine st ?_
     refine cm (Zk.weak (rn []) (Zh8 ((y23.toNat : Nat) : Int) _ ZBN) rfl (WS.mk (tc Zb) Zc)) ?_
     refine st ?_
     obtain rfl := Zh Zid
     refine st ?_
     exact wx (WS.mk (tc (Zd (Zp (web Zi2)) Zb)) Zc)
    ·have Zid := ife Zi2 Zid
     (conv => whnf)
     obtain rfl := Zh Zid
     refine st ?_
     exact wx (WS.mk (tc (Zd (Zp (web Zi2)) Zb)) Zc)
   obtain ⟨r0, hw⟩ := hw
   (conv => whnf)
   refine AWP.weak r0 hw ?_
   refine nw ?_
   refine Zj hF (fun ZrS hF => ?_) (fun ZrS hF => ?_)
   ·refine AWP.seq ?_
    refine ns ?_
    obtain rfl := Zh hF
    refine ns ?_
    refine Exists.intro [] ?_
    refine st ?_
    exact wx (WS.mk (tc Zb) Zc)
   ·refine AWP.seq ?_
    obtain ⟨r28, Zxf, hF⟩ := bind_some hF
    refine ns ?_
    refine e3 ?_
    refine st ?_
    refine cm (Zk.weak (rn []) (Zg7 s _ Zxf) rfl (WS.mk (tc Zb) Zc)) ?_
    refine st ?_
    refine nw ?_
    refine Zj hF (fun ZlX hF => ?_) (fun ZlX hF => ?_)
    ·refine AWP.seq ?_
     refine ns ?_
     obtain rfl := Zh hF
     refine ns ?_
     refine Exists.intro [] ?_
     refine st ?_
     exact wx (WS.mk (tc Zb) Zc)
    ·refine AWP.seq ?_
     obtain ⟨r30, ZFp, hF⟩ := bind_some hF
     obtain ⟨c32, Zni, hF⟩ := bind_some hF
     refine AWP.cutN (fun T => ∃ r, WS r T ⟨[(0, .c none (.v (.string s))), (23, .c none (.v (.bool c32)))], []⟩) ?_ (fun T hw => ?_)
     ·refine ns ?_
      refine e3 ?_
      refine st ?_
      refine cm (Zk.weak (rn []) (ZfO s _ ZFp) rfl (WS.mk (tc Zb) Zc)) ?_
      refine st ?_
      refine Zl true (fun Zn0 => ?_) (fun Zn0 => ?_)
      ·have Zni := ift Zn0 Zni
       obtain ⟨y31, hy310, ZEM, Zni⟩ := Zcw Zni
       (conv => whnf)
       refine sr ZEM ?_
       obtain rfl := Zh Zni
       refine st ?_
       exact wx (WS.mk (tc (Zd (Zp (web Zn0)) Zb)) Zc)
      ·have Zni := ife Zn0 Zni
       (conv => whnf)
       obtain rfl := Zh Zni
       refine st ?_
       exact wx (WS.mk (tc (Zd (Zp (web Zn0)) Zb)) Zc)
     obtain ⟨r0, hw⟩ := hw
     (conv => whnf)
     refine AWP.weak r0 hw ?_
     refine nw ?_
     refine Zj hF (fun ZwX hF => ?_) (fun ZwX hF => ?_)
     ·refine AWP.seq ?_
      refine ns ?_
      obtain rfl := Zh hF
      refine ns ?_
      refine Exists.intro [] ?_
      refine st ?_
      exact wx (WS.mk (tc Zb) Zc)
     ·refine AWP.seq ?_
      obtain ⟨r35, ZAM, hF⟩ := bind_some hF
      refine ns ?_
      refine e3 ?_
      refine st ?_
      refine cm (Zk.weak (rn []) (ZfO s _ ZAM) rfl (WS.mk (tc Zb) Zc)) ?_
      refine st ?_
      refine nw ?_
      refine Zj hF (fun Zjf hF => ?_) (fun Zjf hF => ?_)
      ·refine AWP.seq ?_
       refine ns ?_
       obtain rfl := Zh hF
       refine ns ?_
       refine Exists.intro [] ?_
       refine st ?_
       exact wx (WS.mk (tc Zb) Zc)
      ·refine nw ?_
       refine AWP.seq ?_
       refine AWP.seq ?_
       obtain ⟨r37, ZDE, hF⟩ := bind_some hF
       refine ns ?_
       refine e3 ?_
       refine st ?_
       refine cm (Zk.weak (rn []) (ZiV s _ ZDE) rfl (WS.mk (tc Zb) Zc)) ?_
       refine st ?_
       refine AWP.seq ?_
       refine ns ?_
       refine nw ?_
       refine Zj hF (fun ZqX hF => ?_) (fun ZqX hF => ?_)
       ·refine AWP.seq ?_
        refine ns ?_
        obtain rfl := Zh hF
        refine ns ?_
        refine Exists.intro [] ?_
        refine st ?_
        exact wx (WS.mk (tc Zb) Zc)
       ·refine nw ?_
        refine AWP.seq ?_
        refine ns ?_
        obtain rfl := Zh hF
        refine ns ?_
        refine Exists.intro [] ?_
        refine st ?_
        exact wx (WS.mk (tc Zb) Zc)

def ZH (ZwV : Bool) : Option (Bool) :=
 if ZwV = true then
 some true
 else
 some false
def ZH.M (ZwV : Bool) (r : Bool) : Prop :=
 AWP Tryz.prog 28 (Code.sub (Zs Tryz.f87) [1, 0, 1, 0, 1, 1, 1]) (Code.cont Tryz.prog 28 (Zs Tryz.f87) [1, 0, 1, 0, 1, 1, 1] (Zce tab Tryz.f87.results (Zch (.c none (.v (.bool r))) []))) ⟨[(16, .c none (.v (.bool ZwV)))], []⟩
theorem Z5 (ZwV : Bool) (r : Bool) (hF : ZH ZwV = some r) : ZH.M ZwV r := by
 unfold ZH at hF
 unfold ZH.M
 refine nw ?_
 refine Zj hF (fun ZgV hF => ?_) (fun ZgV hF => ?_)
 ·refine AWP.seq ?_
  refine ns ?_
  obtain rfl := Zh hF
  refine ns ?_
  refine Exists.intro [] ?_
  refine st ?_
  exact wx (WS.mk (tc Zb) Zc)
 ·refine nw ?_
  refine AWP.seq ?_
  refine ns ?_
  obtain rfl := Zh hF
  refine ns ?_
  refine Exists.intro [] ?_
  refine st ?_
  exact wx (WS.mk (tc Zb) Zc)

def ZF (s : ByteArray) (x_4 : Bool) : Option (Bool) :=
 if x_4 = true then
 some true
 else
 if (s.toList == (ByteArray.mk #[105, 110, 102, 105, 120]).toList) = true then
 ZH (s.toList == (ByteArray.mk #[105, 110, 102, 105, 120]).toList)
 else
 if (s.toList == (ByteArray.mk #[105, 110, 102, 105, 120, 108]).toList) = true then
 ZH (s.toList == (ByteArray.mk #[105, 110, 102, 105, 120, 108]).toList)
 else
 if (s.toList == (ByteArray.mk #[105, 110, 102, 105, 120, 114]).toList) = true then
 ZH (s.toList == (ByteArray.mk #[105, 110, 102, 105, 120, 114]).toList)
 else
 if (s.toList == (ByteArray.mk #[105, 110, 115, 116, 97, 110, 99, 101]).toList) = true then
 ZH (s.toList == (ByteArray.mk #[105, 110, 115, 116, 97, 110, 99, 101]).toList)
 else
 if (s.toList == (ByteArray.mk #[108, 101, 116]).toList) = true then
 ZH (s.toList == (ByteArray.mk #[108, 101, 116]).toList)
 else
 if (s.toList == (ByteArray.mk #[109, 111, 100, 117, 108, 101]).toList) = true then
 ZH (s.toList == (ByteArray.mk #[109, 111, 100, 117, 108, 101]).toList)
 else
 if (s.toList == (ByteArray.mk #[111, 102]).toList) = true then
 ZH (s.toList == (ByteArray.mk #[111, 102]).toList)
 else
 if (s.toList == (ByteArray.mk #[113, 117, 97, 108, 105, 102, 105, 101, 100]).toList) = true then
 ZH (s.toList == (ByteArray.mk #[113, 117, 97, 108, 105, 102, 105, 101, 100]).toList)
 else
 if (s.toList == (ByteArray.mk #[116, 104, 101, 110]).toList) = true then
 ZH (s.toList == (ByteArray.mk #[116, 104, 101, 110]).toList)
 else
 if (s.toList == (ByteArray.mk #[119, 104, 101, 114, 101]).toList) = true then
 ZH (s.toList == (ByteArray.mk #[119, 104, 101, 114, 101]).toList)
 else
 ZH (s.toList == (ByteArray.mk #[95]).toList)
def ZF.M (s : ByteArray) (x_4 : Bool) (r : Bool) : Prop :=
 AWP Tryz.prog 28 (Code.sub (Zs Tryz.f87) [1, 0, 1, 0, 1]) (Code.cont Tryz.prog 28 (Zs Tryz.f87) [1, 0, 1, 0, 1] (Zce tab Tryz.f87.results (Zch (.c none (.v (.bool r))) []))) ⟨[(3, .c none (.v (.string s))), (4, .c none (.v (.bool x_4)))], []⟩
theorem Z6 (s : ByteArray) (x_4 : Bool) (r : Bool) (hF : ZF s x_4 = some r) : ZF.M s x_4 r := by
 unfold ZF at hF
 unfold ZF.M
 refine nw ?_
 refine Zj hF (fun ZbR hF => ?_) (fun ZbR hF => ?_)
 ·refine AWP.seq ?_
  refine ns ?_
  obtain rfl := Zh hF
  refine ns ?_
  refine Exists.intro [] ?_
  refine st ?_
  exact wx (WS.mk (tc Zb) Zc)
 ·refine AWP.seq ?_
  refine AWP.seq ?_
  refine ns ?_
  refine nw ?_
  refine Zj hF (fun Zlj hF => ?_) (fun Zlj hF => ?_)
  ·refine nw ?_
   refine AWP.weak (rn []) ?_ (Z5 (s.toList == (ByteArray.mk #[105, 110, 102, 105, 120]).toList) _ hF)
   exact (WS.mk (tc Zb) Zc)
  ·refine AWP.seq ?_
   refine ns ?_
   refine nw ?_
   refine Zj hF (fun ZpT hF => ?_) (fun ZpT hF => ?_)
   ·refine nw ?_
    refine AWP.weak (rn []) ?_ (Z5 (s.toList == (ByteArray.mk #[105, 110, 102, 105, 120, 108]).toList) _ hF)
    exact (WS.mk (tc Zb) Zc)
   ·refine AWP.seq ?_
    refine ns ?_
    refine nw ?_
    refine Zj hF (fun Zid hF => ?_) (fun Zid hF => ?_)
    ·refine nw ?_
     refine AWP.weak (rn []) ?_ (Z5 (s.toList == (ByteArray.mk #[105, 110, 102, 105, 120, 114]).toList) _ hF)
     exact (WS.mk (tc Zb) Zc)
    ·refine AWP.seq ?_
     refine ns ?_
     refine nw ?_
     refine Zj hF (fun Zi2 hF => ?_) (fun Zi2 hF => ?_)
     ·refine nw ?_
      refine AWP.weak (rn []) ?_ (Z5 (s.toList == (ByteArray.mk #[105, 110, 115, 116, 97, 110, 99, 101]).toList) _ hF)
      exact (WS.mk (tc Zb) Zc)
     ·refine AWP.seq ?_
      refine ns ?_
      refine nw ?_
      refine Zj hF (fun ZrS hF => ?_) (fun ZrS hF => ?_)
      ·refine nw ?_
       refine AWP.weak (rn []) ?_ (Z5 (s.toList == (ByteArray.mk #[108, 101, 116]).toList) _ hF)
       exact (WS.mk (tc Zb) Zc)
      ·refine AWP.seq ?_
       refine ns ?_
       refine nw ?_
       refine Zj hF (fun Zxg hF => ?_) (fun Zxg hF => ?_)
       ·refine nw ?_
        refine AWP.weak (rn []) ?_ (Z5 (s.toList == (ByteArray.mk #[109, 111, 100, 117, 108, 101]).toList) _ hF)
        exact (WS.mk (tc Zb) Zc)
       ·refine AWP.seq ?_
        refine ns ?_
        refine nw ?_
        refine Zj hF (fun ZlX hF => ?_) (fun ZlX hF => ?_)
        ·refine nw ?_
         refine AWP.weak (rn []) ?_ (Z5 (s.toList == (ByteArray.mk #[111, 102]).toList) _ hF)
         exact (WS.mk (tc Zb) Zc)
        ·refine AWP.seq ?_
         refine ns ?_
         refine nw ?_
         refine Zj hF (fun ZkZ hF => ?_) (fun ZkZ hF => ?_)
         ·refine nw ?_
          refine AWP.weak (rn []) ?_ (Z5 (s.toList == (ByteArray.mk #[113, 117, 97, 108, 105, 102, 105, 101, 100]).toList) _ hF)
          exact (WS.mk (tc Zb) Zc)
         ·refine AWP.seq ?_
          refine ns ?_
          refine nw ?_
          refine Zj hF (fun ZtQ hF => ?_) (fun ZtQ hF => ?_)
          ·refine nw ?_
           refine AWP.weak (rn []) ?_ (Z5 (s.toList == (ByteArray.mk #[116, 104, 101, 110]).toList) _ hF)
           exact (WS.mk (tc Zb) Zc)
          ·refine AWP.seq ?_
           refine ns ?_
           refine nw ?_
           refine Zj hF (fun Zni hF => ?_) (fun Zni hF => ?_)
           ·refine nw ?_
            refine AWP.weak (rn []) ?_ (Z5 (s.toList == (ByteArray.mk #[119, 104, 101, 114, 101]).toList) _ hF)
            exact (WS.mk (tc Zb) Zc)
           ·refine ns ?_
            refine AWP.weak (rn []) ?_ (Z5 (s.toList == (ByteArray.mk #[95]).toList) _ hF)
            exact (WS.mk (tc Zb) Zc)

def Zb8 (s : ByteArray) : Option (Bool) :=
 if (s.toList == (ByteArray.mk #[97, 115]).toList) = true then
 ZF s (s.toList == (ByteArray.mk #[97, 115]).toList)
 else
 if (s.toList == (ByteArray.mk #[99, 97, 115, 101]).toList) = true then
 ZF s (s.toList == (ByteArray.mk #[99, 97, 115, 101]).toList)
 else
 if (s.toList == (ByteArray.mk #[99, 108, 97, 115, 115]).toList) = true then
 ZF s (s.toList == (ByteArray.mk #[99, 108, 97, 115, 115]).toList)
 else
 if (s.toList == (ByteArray.mk #[100, 97, 116, 97]).toList) = true then
 ZF s (s.toList == (ByteArray.mk #[100, 97, 116, 97]).toList)
 else
 if (s.toList == (ByteArray.mk #[100, 101, 114, 105, 118, 105, 110, 103]).toList) = true then
 ZF s (s.toList == (ByteArray.mk #[100, 101, 114, 105, 118, 105, 110, 103]).toList)
 else
 if (s.toList == (ByteArray.mk #[100, 111]).toList) = true then
 ZF s (s.toList == (ByteArray.mk #[100, 111]).toList)
 else
 if (s.toList == (ByteArray.mk #[101, 108, 115, 101]).toList) = true then
 ZF s (s.toList == (ByteArray.mk #[101, 108, 115, 101]).toList)
 else
 if (s.toList == (ByteArray.mk #[104, 105, 100, 105, 110, 103]).toList) = true then
 ZF s (s.toList == (ByteArray.mk #[104, 105, 100, 105, 110, 103]).toList)
 else
 if (s.toList == (ByteArray.mk #[105, 102]).toList) = true then
 ZF s (s.toList == (ByteArray.mk #[105, 102]).toList)
 else
 if (s.toList == (ByteArray.mk #[105, 109, 112, 111, 114, 116]).toList) = true then
 ZF s (s.toList == (ByteArray.mk #[105, 109, 112, 111, 114, 116]).toList)
 else
 ZF s (s.toList == (ByteArray.mk #[105, 110]).toList)
def Zb8.M (s : ByteArray) (r : Bool) : Prop :=
 Zk Tryz.prog 87 [.c none (.v (.string s))] [] (fun d b => d = .c none (.v (.bool r)) ∧ b = [])
theorem ZjU (s : ByteArray) (r : Bool) (hF : Zb8 s = some r) : Zb8.M s r := by
 unfold Zb8 at hF
 unfold Zb8.M
 refine en Tryz.func87 ?_
 refine AWP.seq ?_
 refine ns ?_
 refine AWP.seq ?_
 refine AWP.seq ?_
 refine ns ?_
 refine AWP.block ?_
 refine AWP.seq ?_
 refine AWP.seq ?_
 refine ns ?_
 refine nw ?_
 refine Zj hF (fun Zn0 hF => ?_) (fun Zn0 hF => ?_)
 ·refine nw ?_
  refine AWP.weak (rn []) ?_ (Z6 s (s.toList == (ByteArray.mk #[97, 115]).toList) _ hF)
  exact (WS.mk (tc (tc Zb)) Zc)
 ·refine AWP.seq ?_
  refine ns ?_
  refine nw ?_
  refine Zj hF (fun ZwX hF => ?_) (fun ZwX hF => ?_)
  ·refine nw ?_
   refine AWP.weak (rn []) ?_ (Z6 s (s.toList == (ByteArray.mk #[99, 97, 115, 101]).toList) _ hF)
   exact (WS.mk (tc (tc Zb)) Zc)
  ·refine AWP.seq ?_
   refine ns ?_
   refine nw ?_
   refine Zj hF (fun ZlM hF => ?_) (fun ZlM hF => ?_)
   ·refine nw ?_
    refine AWP.weak (rn []) ?_ (Z6 s (s.toList == (ByteArray.mk #[99, 108, 97, 115, 115]).toList) _ hF)
    exact (WS.mk (tc (tc Zb)) Zc)
   ·refine AWP.seq ?_
    refine ns ?_
    refine nw ?_
    refine Zj hF (fun Zjf hF => ?_) (fun Zjf hF => ?_)
    ·refine nw ?_
     refine AWP.weak (rn []) ?_ (Z6 s (s.toList == (ByteArray.mk #[100, 97, 116, 97]).toList) _ hF)
     exact (WS.mk (tc (tc Zb)) Zc)
    ·refine AWP.seq ?_
     refine ns ?_
     refine nw ?_
     refine Zj hF (fun Zn5 hF => ?_) (fun Zn5 hF => ?_)
     ·refine nw ?_
      refine AWP.weak (rn []) ?_ (Z6 s (s.toList == (ByteArray.mk #[100, 101, 114, 105, 118, 105, 110, 103]).toList) _ hF)
      exact (WS.mk (tc (tc Zb)) Zc)
     ·refine AWP.seq ?_
      refine ns ?_
      refine nw ?_
      refine Zj hF (fun ZqX hF => ?_) (fun ZqX hF => ?_)
      ·refine nw ?_
       refine AWP.weak (rn []) ?_ (Z6 s (s.toList == (ByteArray.mk #[100, 111]).toList) _ hF)
       exact (WS.mk (tc (tc Zb)) Zc)
      ·refine AWP.seq ?_
       refine ns ?_
       refine nw ?_
       refine Zj hF (fun ZhP hF => ?_) (fun ZhP hF => ?_)
       ·refine nw ?_
        refine AWP.weak (rn []) ?_ (Z6 s (s.toList == (ByteArray.mk #[101, 108, 115, 101]).toList) _ hF)
        exact (WS.mk (tc (tc Zb)) Zc)
       ·refine AWP.seq ?_
        refine ns ?_
        refine nw ?_
        refine Zj hF (fun Zmk hF => ?_) (fun Zmk hF => ?_)
        ·refine nw ?_
         refine AWP.weak (rn []) ?_ (Z6 s (s.toList == (ByteArray.mk #[104, 105, 100, 105, 110, 103]).toList) _ hF)
         exact (WS.mk (tc (tc Zb)) Zc)
        ·refine AWP.seq ?_
         refine ns ?_
         refine nw ?_
         refine Zj hF (fun Zyu hF => ?_) (fun Zyu hF => ?_)
         ·refine nw ?_
          refine AWP.weak (rn []) ?_ (Z6 s (s.toList == (ByteArray.mk #[105, 102]).toList) _ hF)
          exact (WS.mk (tc (tc Zb)) Zc)
         ·refine AWP.seq ?_
          refine ns ?_
          refine nw ?_
          refine Zj hF (fun ZqU hF => ?_) (fun ZqU hF => ?_)
          ·refine nw ?_
           refine AWP.weak (rn []) ?_ (Z6 s (s.toList == (ByteArray.mk #[105, 109, 112, 111, 114, 116]).toList) _ hF)
           exact (WS.mk (tc (tc Zb)) Zc)
          ·refine ns ?_
           refine AWP.weak (rn []) ?_ (Z6 s (s.toList == (ByteArray.mk #[105, 110]).toList) _ hF)
           exact (WS.mk (tc (tc Zb)) Zc)

def Zx (x_4 : Bool) : Option (Bool) :=
 if x_4 = true then
 some true
 else
 some false
def Zx.M (x_4 : Bool) (r : Bool) : Prop :=
 AWP Tryz.prog 15 (Code.sub (Zs Tryz.f90) [1, 0, 1, 0, 1]) (Code.cont Tryz.prog 15 (Zs Tryz.f90) [1, 0, 1, 0, 1] (Zce tab Tryz.f90.results (Zch (.c none (.v (.bool r))) []))) ⟨[(4, .c none (.v (.bool x_4)))], []⟩
theorem ZP (x_4 : Bool) (r : Bool) (hF : Zx x_4 = some r) : Zx.M x_4 r := by
 unfold Zx at hF
 unfold Zx.M
 refine nw ?_
 refine Zj hF (fun Zd5 hF => ?_) (fun Zd5 hF => ?_)
 ·refine AWP.seq ?_
  refine ns ?_
  obtain rfl := Zh hF
  refine ns ?_
  refine Exists.intro [] ?_
  refine st ?_
  exact wx (WS.mk (tc Zb) Zc)
 ·refine nw ?_
  refine AWP.seq ?_
  refine ns ?_
  obtain rfl := Zh hF
  refine ns ?_
  refine Exists.intro [] ?_
  refine st ?_
  exact wx (WS.mk (tc Zb) Zc)

def ZaK (s : ByteArray) : Option (Bool) :=
 if (s.toList == (ByteArray.mk #[46, 46]).toList) = true then
 Zx (s.toList == (ByteArray.mk #[46, 46]).toList)
 else
 if (s.toList == (ByteArray.mk #[58, 58]).toList) = true then
 Zx (s.toList == (ByteArray.mk #[58, 58]).toList)
 else
 if (s.toList == (ByteArray.mk #[61]).toList) = true then
 Zx (s.toList == (ByteArray.mk #[61]).toList)
 else
 if (s.toList == (ByteArray.mk #[92]).toList) = true then
 Zx (s.toList == (ByteArray.mk #[92]).toList)
 else
 if (s.toList == (ByteArray.mk #[124]).toList) = true then
 Zx (s.toList == (ByteArray.mk #[124]).toList)
 else
 if (s.toList == (ByteArray.mk #[60, 45]).toList) = true then
 Zx (s.toList == (ByteArray.mk #[60, 45]).toList)
 else
 if (s.toList == (ByteArray.mk #[45, 62]).toList) = true then
 Zx (s.toList == (ByteArray.mk #[45, 62]).toList)
 else
 if (s.toList == (ByteArray.mk #[64]).toList) = true then
 Zx (s.toList == (ByteArray.mk #[64]).toList)
 else
 if (s.toList == (ByteArray.mk #[126]).toList) = true then
 Zx (s.toList == (ByteArray.mk #[126]).toList)
 else
 Zx (s.toList == (ByteArray.mk #[61, 62]).toList)
def ZaK.M (s : ByteArray) (r : Bool) : Prop :=
 Zk Tryz.prog 90 [.c none (.v (.string s))] [] (fun d b => d = .c none (.v (.bool r)) ∧ b = [])
theorem Zhn (s : ByteArray) (r : Bool) (hF : ZaK s = some r) : ZaK.M s r := by
 unfold ZaK at hF
 unfold ZaK.M
 refine en Tryz.func90 ?_
 refine AWP.seq ?_
 refine ns ?_
 refine AWP.seq ?_
 refine AWP.seq ?_
 refine ns ?_
 refine AWP.block ?_
 refine AWP.seq ?_
 refine AWP.seq ?_
 refine ns ?_
 refine nw ?_
 refine Zj hF (fun ZbR hF => ?_) (fun ZbR hF => ?_)
 ·refine nw ?_
  refine AWP.weak (rn []) ?_ (ZP (s.toList == (ByteArray.mk #[46, 46]).toList) _ hF)
  exact (WS.mk (tc Zb) Zc)
 ·refine AWP.seq ?_
  refine ns ?_
  refine nw ?_
  refine Zj hF (fun ZdO hF => ?_) (fun ZdO hF => ?_)
  ·refine nw ?_
   refine AWP.weak (rn []) ?_ (ZP (s.toList == (ByteArray.mk #[58, 58]).toList) _ hF)
   exact (WS.mk (tc Zb) Zc)
  ·refine AWP.seq ?_
   refine ns ?_
   refine nw ?_
   refine Zj hF (fun Zbp hF => ?_) (fun Zbp hF => ?_)
   ·refine nw ?_
    refine AWP.weak (rn []) ?_ (ZP (s.toList == (ByteArray.mk #[61]).toList) _ hF)
    exact (WS.mk (tc Zb) Zc)
   ·refine AWP.seq ?_
    refine ns ?_
    refine nw ?_
    refine Zj hF (fun Zcx hF => ?_) (fun Zcx hF => ?_)
    ·refine nw ?_
     refine AWP.weak (rn []) ?_ (ZP (s.toList == (ByteArray.mk #[92]).toList) _ hF)
     exact (WS.mk (tc Zb) Zc)
    ·refine AWP.seq ?_
     refine ns ?_
     refine nw ?_
     refine Zj hF (fun Zen hF => ?_) (fun Zen hF => ?_)
     ·refine nw ?_
      refine AWP.weak (rn []) ?_ (ZP (s.toList == (ByteArray.mk #[124]).toList) _ hF)
      exact (WS.mk (tc Zb) Zc)
     ·refine AWP.seq ?_
      refine ns ?_
      refine nw ?_
      refine Zj hF (fun Zdu hF => ?_) (fun Zdu hF => ?_)
      ·refine nw ?_
       refine AWP.weak (rn []) ?_ (ZP (s.toList == (ByteArray.mk #[60, 45]).toList) _ hF)
       exact (WS.mk (tc Zb) Zc)
      ·refine AWP.seq ?_
       refine ns ?_
       refine nw ?_
       refine Zj hF (fun Zdd hF => ?_) (fun Zdd hF => ?_)
       ·refine nw ?_
        refine AWP.weak (rn []) ?_ (ZP (s.toList == (ByteArray.mk #[45, 62]).toList) _ hF)
        exact (WS.mk (tc Zb) Zc)
       ·refine AWP.seq ?_
        refine ns ?_
        refine nw ?_
        refine Zj hF (fun ZiX hF => ?_) (fun ZiX hF => ?_)
        ·refine nw ?_
         refine AWP.weak (rn []) ?_ (ZP (s.toList == (ByteArray.mk #[64]).toList) _ hF)
         exact (WS.mk (tc Zb) Zc)
        ·refine AWP.seq ?_
         refine ns ?_
         refine nw ?_
         refine Zj hF (fun Zey hF => ?_) (fun Zey hF => ?_)
         ·refine nw ?_
          refine AWP.weak (rn []) ?_ (ZP (s.toList == (ByteArray.mk #[126]).toList) _ hF)
          exact (WS.mk (tc Zb) Zc)
         ·refine ns ?_
          refine AWP.weak (rn []) ?_ (ZP (s.toList == (ByteArray.mk #[61, 62]).toList) _ hF)
          exact (WS.mk (tc Zb) Zc)

def ZU (c : Int) (i_4 : Nat) : Option (Bool) :=
 if (decide (((i_4 : Nat) : Int) < (((ByteArray.mk #[33, 35, 36, 37, 38, 42, 43, 46, 47, 60, 61, 62, 63, 64, 92, 94, 124, 45, 126, 58]).size : Nat) : Int))) = true then
 (btI (ByteArray.mk #[33, 35, 36, 37, 38, 42, 43, 46, 47, 60, 61, 62, 63, 64, 92, 94, 124, 45, 126, 58]) ((i_4 : Nat) : Int)) >>= fun y12 =>
 if (((y12.toNat : Nat) : Int) == c) = true then
 some true
 else
 Zac (i_4 + 1 ≤ 9223372036854775807) >>= fun _ =>
 ZU c (i_4 + 1)
 else
 some false
 partial_fixpoint
def ZU.M (c : Int) (i_4 : Nat) (r : Bool) : Prop :=
 AWL Tryz.prog 16 (Code.sub (Zs Tryz.f112) [1, 1, 0, 1, 0, 0]) (Code.cont Tryz.prog 16 (Zs Tryz.f112) [1, 1, 0, 1, 0] (Zce tab Tryz.f112.results (Zch (.c none (.v (.bool r))) []))) ⟨[(0, .c none (.v (.int .u8 c))), (3, .c none (.v (.string (ByteArray.mk #[33, 35, 36, 37, 38, 42, 43, 46, 47, 60, 61, 62, 63, 64, 92, 94, 124, 45, 126, 58])))), (4, .c none (.v (.int .i64 ((i_4 : Nat) : Int))))], []⟩
theorem Ziz (c : Int) (i_4 : Nat) : ∀ r, ZU c i_4 = some r → ZU.M c i_4 r := by
 refine ZU.partial_correctness c (fun i_4 r => ZU.M c i_4 r) ?_ i_4
 intro lazycref01_Symbolic_l1' Ze4 i_4 r hF
 have Zis := fun (_c : Int) (i_4 : Nat) => Ze4 i_4
 clear Ze4
 unfold ZU.M
 refine AWL.step ?_
 refine AWP.seq ?_
 refine AWP.seq ?_
 refine ns ?_
 refine nw ?_
 refine Zj hF (fun ZbR hF => ?_) (fun ZbR hF => ?_)
 ·refine nw ?_
  refine AWP.seq ?_
  refine AWP.block ?_
  refine AWP.seq ?_
  obtain ⟨y12, ZBX, ZBF, hF⟩ := Zcw hF
  refine nn ?_
  refine sr ZBF ?_
  refine st ?_
  refine nw ?_
  refine Zj hF (fun Zbp hF => ?_) (fun Zbp hF => ?_)
  ·refine AWP.seq ?_
   refine ns ?_
   obtain rfl := Zh hF
   refine ns ?_
   refine Exists.intro [] ?_
   refine st ?_
   exact wx (WS.mk (tc Zb) Zc)
  ·refine nw ?_
   obtain ⟨ZDY, hF⟩ := ZD hF
   refine ns ?_
   refine AWL.weak (rn []) ?_ (Zis c (i_4 + 1) _ hF)
   exact (WS.mk (tc (tc (Zd (Zp (Zc3 (ZcM ZDY))) Zb))) Zc)
 ·refine nw ?_
  refine AWP.seq ?_
  refine ns ?_
  obtain rfl := Zh hF
  refine ns ?_
  refine Exists.intro [] ?_
  refine st ?_
  exact wx (WS.mk (tc Zb) Zc)

def Zb5 (c : Int) : Option (Bool) :=
 ZU c 0
def Zb5.M (c : Int) (r : Bool) : Prop :=
 Zk Tryz.prog 112 [.c none (.v (.int .u8 c))] [] (fun d b => d = .c none (.v (.bool r)) ∧ b = [])
theorem Zkg (c : Int) (r : Bool) (hF : Zb5 c = some r) : Zb5.M c r := by
 unfold Zb5 at hF
 unfold Zb5.M
 refine en Tryz.func112 ?_
 refine AWP.seq ?_
 refine ns ?_
 refine AWP.seq ?_
 refine ns ?_
 refine AWP.seq ?_
 refine AWP.seq ?_
 refine ns ?_
 refine AWP.block ?_
 refine AWP.loop ?_
 refine AWL.weak (rn []) ?_ (Ziz c 0 _ hF)
 exact (WS.mk (tc (tc (tc Zb))) Zc)

def Zap (s : ByteArray) (Za9 : Nat) (i_4 : Nat) : Option (Bool) :=
 if (decide (((i_4 : Nat) : Int) < ((s.size : Nat) : Int))) = true then
 (btI s ((i_4 : Nat) : Int)) >>= fun y68 =>
 Zb5 ((y68.toNat : Nat) : Int) >>= fun r69 =>
 if (!r69) = true then
 some false
 else
 (btI s ((i_4 : Nat) : Int)) >>= fun y71 =>
 if (((y71.toNat : Nat) : Int) == 45) = true then
 Zac (Za9 + 1 ≤ 9223372036854775807) >>= fun _ =>
 Zac (i_4 + 1 ≤ 9223372036854775807) >>= fun _ =>
 Zap s (Za9 + 1) (i_4 + 1)
 else
 Zac (i_4 + 1 ≤ 9223372036854775807) >>= fun _ =>
 Zap s Za9 (i_4 + 1)
 else
 some ((decide (((Za9 : Nat) : Int) < ((s.size : Nat) : Int))) || (((s.size : Nat) : Int) == 1))
 partial_fixpoint
def Zap.M (s : ByteArray) (Za9 : Nat) (i_4 : Nat) (r : Bool) : Prop :=
 AWL Tryz.prog 39 (Code.sub (Zs Tryz.f89) [1, 1, 1, 0, 1, 0, 0]) (Code.cont Tryz.prog 39 (Zs Tryz.f89) [1, 1, 1, 0, 1, 0] (Zce tab Tryz.f89.results (Zch (.c none (.v (.bool r))) []))) ⟨[(0, .c none (.v (.string s))), (3, .c none (.v (.int .i64 ((Za9 : Nat) : Int)))), (4, .c none (.v (.int .i64 ((i_4 : Nat) : Int))))], []⟩
theorem Zjq (s : ByteArray) (Za9 : Nat) (i_4 : Nat) : ∀ r, Zap s Za9 i_4 = some r → Zap.M s Za9 i_4 r := by
 refine Zap.partial_correctness s (fun Za9 i_4 r => Zap.M s Za9 i_4 r) ?_ Za9 i_4
 intro lazycref01_symbol_l1' ZfL Za9 i_4 r hF
 have Zf3 := fun (_s : ByteArray) (Za9 : Nat) (i_4 : Nat) => ZfL Za9 i_4
 clear ZfL
 unfold Zap.M
 refine AWL.step ?_
 refine AWP.seq ?_
 refine AWP.seq ?_
 refine ns ?_
 refine nw ?_
 refine Zj hF (fun Zxw hF => ?_) (fun Zxw hF => ?_)
 ·refine nw ?_
  refine AWP.seq ?_
  refine AWP.block ?_
  refine AWP.seq ?_
  refine AWP.seq ?_
  obtain ⟨y68, hy680, ZDV, hF⟩ := Zcw hF
  obtain ⟨r69, ZBf, hF⟩ := bind_some hF
  refine nn ?_
  refine sr ZDV ?_
  refine st ?_
  refine e3 ?_
  refine st ?_
  refine cm (Zk.weak (rn []) (Zkg ((y68.toNat : Nat) : Int) _ ZBf) rfl (WS.mk (tc Zb) Zc)) ?_
  refine st ?_
  refine nw ?_
  refine Zj hF (fun Zw8 hF => ?_) (fun Zw8 hF => ?_)
  ·refine AWP.seq ?_
   refine ns ?_
   obtain rfl := Zh hF
   refine ns ?_
   refine Exists.intro [] ?_
   refine st ?_
   exact wx (WS.mk (tc Zb) Zc)
  ·refine nw ?_
   refine AWP.seq ?_
   obtain ⟨y71, hy710, ZEP, hF⟩ := Zcw hF
   refine nn ?_
   refine sr ZEP ?_
   refine st ?_
   refine nw ?_
   refine Zj hF (fun ZBC hF => ?_) (fun ZBC hF => ?_)
   ·obtain ⟨ZFm, hF⟩ := ZD hF
    refine ns ?_
    obtain ⟨ZBp, hF⟩ := ZD hF
    refine ns ?_
    refine AWL.weak (rn []) ?_ (Zf3 s (Za9 + 1) (i_4 + 1) _ hF)
    exact (WS.mk (tc (Zd (Zp (Zc3 (ZcM ZFm))) (Zd (Zp (Zc3 (ZcM ZBp))) Zb))) Zc)
   ·refine nw ?_
    obtain ⟨Zz5, hF⟩ := ZD hF
    refine ns ?_
    refine AWL.weak (rn []) ?_ (Zf3 s Za9 (i_4 + 1) _ hF)
    exact (WS.mk (tc (tc (Zd (Zp (Zc3 (ZcM Zz5))) Zb))) Zc)
 ·refine nw ?_
  refine AWP.seq ?_
  refine AWP.cutN (fun T => ∃ r, WS r T ⟨[(2, .c none (.v (.bool ((decide (((Za9 : Nat) : Int) < ((s.size : Nat) : Int))) || (((s.size : Nat) : Int) == 1)))))], []⟩) ?_ (fun T hw => ?_)
  ·refine ns ?_
   refine Zl false (fun ZAn => ?_) (fun ZAn => ?_)
   ·(conv => whnf)
    refine st ?_
    exact wx (WS.mk (Zd (Zp (web ZAn)) Zb) Zc)
   ·(conv => whnf)
    refine st ?_
    exact wx (WS.mk (Zd (Zp (web ZAn)) Zb) Zc)
  obtain ⟨r0, hw⟩ := hw
  (conv => whnf)
  refine AWP.weak r0 hw ?_
  obtain rfl := Zh hF
  refine ns ?_
  refine Exists.intro [] ?_
  refine st ?_
  exact wx (WS.mk (tc Zb) Zc)

def ZcB (s : ByteArray) : Option (Bool) :=
 if ((decide (((s.size : Nat) : Int) < 1)) || (decide (((s.size : Nat) : Int) > 64))) = true then
 some false
 else
 Zap s 0 0
def ZcB.M (s : ByteArray) (r : Bool) : Prop :=
 Zk Tryz.prog 89 [.c none (.v (.string s))] [] (fun d b => d = .c none (.v (.bool r)) ∧ b = [])
theorem Zll (s : ByteArray) (r : Bool) (hF : ZcB s = some r) : ZcB.M s r := by
 unfold ZcB at hF
 unfold ZcB.M
 refine en Tryz.func89 ?_
 refine AWP.seq ?_
 refine ns ?_
 refine AWP.seq ?_
 refine AWP.seq ?_
 refine AWP.cutN (fun T => ∃ r, WS r T ⟨[(0, .c none (.v (.string s))), (12, .c none (.v (.bool ((decide (((s.size : Nat) : Int) < 1)) || (decide (((s.size : Nat) : Int) > 64))))))], []⟩) ?_ (fun T hw => ?_)
 ·refine ns ?_
  refine Zl false (fun hc2 => ?_) (fun hc2 => ?_)
  ·(conv => whnf)
   refine st ?_
   exact wx (WS.mk (tc (Zd (Zp (web hc2)) Zb)) Zc)
  ·(conv => whnf)
   refine st ?_
   exact wx (WS.mk (tc (Zd (Zp (web hc2)) Zb)) Zc)
 obtain ⟨r0, hw⟩ := hw
 (conv => whnf)
 refine AWP.weak r0 hw ?_
 refine nw ?_
 refine Zj hF (fun hc3 hF => ?_) (fun hc3 hF => ?_)
 ·refine AWP.seq ?_
  refine ns ?_
  obtain rfl := Zh hF
  refine ns ?_
  refine Exists.intro [] ?_
  refine st ?_
  exact wx (WS.mk (tc Zb) Zc)
 ·refine nw ?_
  refine AWP.seq ?_
  refine ns ?_
  refine AWP.seq ?_
  refine AWP.seq ?_
  refine ns ?_
  refine AWP.block ?_
  refine AWP.loop ?_
  refine AWL.weak (rn []) ?_ (Zjq s 0 0 _ hF)
  exact (WS.mk (tc (tc (tc Zb))) Zc)

def Zb4 (c : Int) : Option (Bool) :=
 some ((decide (c ≥ 65)) && (decide (c ≤ 90)))
def Zb4.M (c : Int) (r : Bool) : Prop :=
 Zk Tryz.prog 88 [.c none (.v (.int .u8 c))] [] (fun d b => d = .c none (.v (.bool r)) ∧ b = [])
theorem Zft (c : Int) (r : Bool) (hF : Zb4 c = some r) : Zb4.M c r := by
 unfold Zb4 at hF
 unfold Zb4.M
 refine en Tryz.func88 ?_
 refine AWP.seq ?_
 refine ns ?_
 refine AWP.seq ?_
 refine AWP.cutN (fun T => ∃ r, WS r T ⟨[(2, .c none (.v (.bool ((decide (c ≥ 65)) && (decide (c ≤ 90))))))], []⟩) ?_ (fun T hw => ?_)
 ·refine ns ?_
  refine Zl true (fun hc1 => ?_) (fun hc1 => ?_)
  ·(conv => whnf)
   refine st ?_
   exact wx (WS.mk (Zd (Zp (web hc1)) Zb) Zc)
  ·(conv => whnf)
   refine st ?_
   exact wx (WS.mk (Zd (Zp (web hc1)) Zb) Zc)
 obtain ⟨r0, hw⟩ := hw
 (conv => whnf)
 refine AWP.weak r0 hw ?_
 obtain rfl := Zh hF
 refine ns ?_
 refine Exists.intro [] ?_
 refine st ?_
 exact wx (WS.mk (tc Zb) Zc)

def Zcs (c : Int) : Option (Bool) :=
 some (((decide (c ≥ 97)) && (decide (c ≤ 122))) || (c == 95))
def Zcs.M (c : Int) (r : Bool) : Prop :=
 Zk Tryz.prog 111 [.c none (.v (.int .u8 c))] [] (fun d b => d = .c none (.v (.bool r)) ∧ b = [])
theorem Zhw (c : Int) (r : Bool) (hF : Zcs c = some r) : Zcs.M c r := by
 unfold Zcs at hF
 unfold Zcs.M
 refine en Tryz.func111 ?_
 refine AWP.seq ?_
 refine ns ?_
 refine AWP.seq ?_
 refine AWP.cutN (fun T => ∃ r, WS r T ⟨[(2, .c none (.v (.bool (((decide (c ≥ 97)) && (decide (c ≤ 122))) || (c == 95)))))], []⟩) ?_ (fun T hw => ?_)
 ·refine ns ?_
  refine Zl true (fun hc1 => ?_) (fun hc1 => ?_)
  ·(conv => whnf)
   refine st ?_
   refine Zl false (fun hc2 => ?_) (fun hc2 => ?_)
   ·(conv => whnf)
    refine st ?_
    exact wx (WS.mk (Zd (Zp (web (And.intro hc1 hc2))) Zb) Zc)
   ·(conv => whnf)
    refine st ?_
    exact wx (WS.mk (Zd (Zp (web (And.intro hc1 hc2))) Zb) Zc)
  ·(conv => whnf)
   refine st ?_
   exact wx (WS.mk (Zd (Zp (web hc1)) Zb) Zc)
 obtain ⟨r0, hw⟩ := hw
 (conv => whnf)
 refine AWP.weak r0 hw ?_
 obtain rfl := Zh hF
 refine ns ?_
 refine Exists.intro [] ?_
 refine st ?_
 exact wx (WS.mk (tc Zb) Zc)

def Zco (c : Int) : Option (Bool) :=
 some ((decide (c ≥ 48)) && (decide (c ≤ 57)))
def Zco.M (c : Int) (r : Bool) : Prop :=
 Zk Tryz.prog 110 [.c none (.v (.int .u8 c))] [] (fun d b => d = .c none (.v (.bool r)) ∧ b = [])
theorem Zhy (c : Int) (r : Bool) (hF : Zco c = some r) : Zco.M c r := by
 unfold Zco at hF
 unfold Zco.M
 refine en Tryz.func110 ?_
 refine AWP.seq ?_
 refine ns ?_
 refine AWP.seq ?_
 refine AWP.cutN (fun T => ∃ r, WS r T ⟨[(2, .c none (.v (.bool ((decide (c ≥ 48)) && (decide (c ≤ 57))))))], []⟩) ?_ (fun T hw => ?_)
 ·refine ns ?_
  refine Zl true (fun hc1 => ?_) (fun hc1 => ?_)
  ·(conv => whnf)
   refine st ?_
   exact wx (WS.mk (Zd (Zp (web hc1)) Zb) Zc)
  ·(conv => whnf)
   refine st ?_
   exact wx (WS.mk (Zd (Zp (web hc1)) Zb) Zc)
 obtain ⟨r0, hw⟩ := hw
 (conv => whnf)
 refine AWP.weak r0 hw ?_
 obtain rfl := Zh hF
 refine ns ?_
 refine Exists.intro [] ?_
 refine st ?_
 exact wx (WS.mk (tc Zb) Zc)

def Za7 (s : ByteArray) (i_3 : Nat) : Option (Bool) :=
 if (decide (((i_3 : Nat) : Int) < ((s.size : Nat) : Int))) = true then
 (btI s ((i_3 : Nat) : Int)) >>= fun y47 =>
 Zcs ((y47.toNat : Nat) : Int) >>= fun r48 =>
 (if (!r48) = true then (btI s ((i_3 : Nat) : Int)) >>= fun y49 =>
 Zb4 ((y49.toNat : Nat) : Int) >>= fun r50 =>
 some (!r50) else some false) >>= fun c51 =>
 (if c51 = true then (btI s ((i_3 : Nat) : Int)) >>= fun y52 =>
 Zco ((y52.toNat : Nat) : Int) >>= fun r53 =>
 some (!r53) else some false) >>= fun c54 =>
 (if c54 = true then (btI s ((i_3 : Nat) : Int)) >>= fun y55 =>
 some (((y55.toNat : Nat) : Int) != 39) else some false) >>= fun c56 =>
 if c56 = true then
 some false
 else
 Zac (i_3 + 1 ≤ 9223372036854775807) >>= fun _ =>
 Za7 s (i_3 + 1)
 else
 some true
 partial_fixpoint
def Za7.M (s : ByteArray) (i_3 : Nat) (r : Bool) : Prop :=
 AWL Tryz.prog 55 (Code.sub (Zs Tryz.f86) [1, 1, 0, 1, 0, 0]) (Code.cont Tryz.prog 55 (Zs Tryz.f86) [1, 1, 0, 1, 0] (Zce tab Tryz.f86.results (Zch (.c none (.v (.bool r))) []))) ⟨[(0, .c none (.v (.string s))), (3, .c none (.v (.int .i64 ((i_3 : Nat) : Int))))], []⟩
theorem ZkI (s : ByteArray) (i_3 : Nat) : ∀ r, Za7 s i_3 = some r → Za7.M s i_3 r := by
 refine Za7.partial_correctness s (fun i_3 r => Za7.M s i_3 r) ?_ i_3
 intro lazycref01_word_l1' ZgA i_3 r hF
 have ZkC := fun (_s : ByteArray) (i_3 : Nat) => ZgA i_3
 clear ZgA
 unfold Za7.M
 refine AWL.step ?_
 refine AWP.seq ?_
 refine AWP.seq ?_
 refine ns ?_
 refine nw ?_
 refine Zj hF (fun ZEb hF => ?_) (fun ZEb hF => ?_)
 ·refine nw ?_
  refine AWP.seq ?_
  refine AWP.block ?_
  refine AWP.seq ?_
  obtain ⟨y47, hy470, ZEG, hF⟩ := Zcw hF
  obtain ⟨r48, ZDu, hF⟩ := bind_some hF
  obtain ⟨c51, Zoz, hF⟩ := bind_some hF
  obtain ⟨c54, ZiZ, hF⟩ := bind_some hF
  obtain ⟨c56, Zjv, hF⟩ := bind_some hF
  refine AWP.cutN (fun T => ∃ r, WS r T ⟨[(0, .c none (.v (.string s))), (3, .c none (.v (.int .i64 ((i_3 : Nat) : Int)))), (54, .c none (.v (.bool c56)))], []⟩) ?_ (fun T hw => ?_)
  ·refine nn ?_
   refine sr ZEG ?_
   refine st ?_
   refine e3 ?_
   refine st ?_
   refine cm (Zk.weak (rn []) (Zhw ((y47.toNat : Nat) : Int) _ ZDu) rfl (WS.mk (tc Zb) Zc)) ?_
   refine st ?_
   refine Zl true (fun Zij => ?_) (fun Zij => ?_)
   ·have Zoz := ift Zij Zoz
    obtain ⟨y49, hy490, ZDr, Zoz⟩ := Zcw Zoz
    obtain ⟨r50, ZBc, Zoz⟩ := bind_some Zoz
    (conv => whnf)
    refine sr ZDr ?_
    refine st ?_
    refine e3 ?_
    refine st ?_
    refine cm (Zk.weak (rn []) (Zft ((y49.toNat : Nat) : Int) _ ZBc) rfl (WS.mk (tc Zb) Zc)) ?_
    refine st ?_
    obtain rfl := Zh Zoz
    refine st ?_
    refine Zl true (fun Zoa => ?_) (fun Zoa => ?_)
    ·have ZiZ := ift (And.intro Zij Zoa) ZiZ
     obtain ⟨y52, hy520, ZFh, ZiZ⟩ := Zcw ZiZ
     obtain ⟨r53, ZEE, ZiZ⟩ := bind_some ZiZ
     (conv => whnf)
     refine sr ZFh ?_
     refine st ?_
     refine e3 ?_
     refine st ?_
     refine cm (Zk.weak (rn []) (Zhy ((y52.toNat : Nat) : Int) _ ZEE) rfl (WS.mk (tc Zb) Zc)) ?_
     refine st ?_
     obtain rfl := Zh ZiZ
     refine st ?_
     refine Zl true (fun ZtR => ?_) (fun ZtR => ?_)
     ·have Zjv := ift (And.intro Zij (And.intro Zoa ZtR)) Zjv
      obtain ⟨y55, hy550, ZDy, Zjv⟩ := Zcw Zjv
      (conv => whnf)
      refine sr ZDy ?_
      obtain rfl := Zh Zjv
      refine st ?_
      exact wx (WS.mk (tc (tc (Zd (Zp (web (And.intro Zij (And.intro Zoa ZtR)))) Zb))) Zc)
     ·have Zjv := ife (And.intro Zij (And.intro Zoa ZtR)) Zjv
      (conv => whnf)
      obtain rfl := Zh Zjv
      refine st ?_
      exact wx (WS.mk (tc (tc (Zd (Zp (web (And.intro Zij (And.intro Zoa ZtR)))) Zb))) Zc)
    ·have ZiZ := ife (And.intro Zij Zoa) ZiZ
     (conv => whnf)
     obtain rfl := Zh ZiZ
     have Zjv := ife (And.intro Zij Zoa) Zjv
     obtain rfl := Zh Zjv
     refine st ?_
     exact wx (WS.mk (tc (tc (Zd (Zp (web (And.intro Zij Zoa))) Zb))) Zc)
   ·have Zoz := ife Zij Zoz
    (conv => whnf)
    obtain rfl := Zh Zoz
    have ZiZ := ife Zij ZiZ
    obtain rfl := Zh ZiZ
    have Zjv := ife Zij Zjv
    obtain rfl := Zh Zjv
    refine st ?_
    exact wx (WS.mk (tc (tc (Zd (Zp (web Zij)) Zb))) Zc)
  obtain ⟨r0, hw⟩ := hw
  (conv => whnf)
  refine AWP.weak r0 hw ?_
  refine nw ?_
  refine Zj hF (fun ZDQ hF => ?_) (fun ZDQ hF => ?_)
  ·refine AWP.seq ?_
   refine ns ?_
   obtain rfl := Zh hF
   refine ns ?_
   refine Exists.intro [] ?_
   refine st ?_
   exact wx (WS.mk (tc Zb) Zc)
  ·refine nw ?_
   obtain ⟨ZBQ, hF⟩ := ZD hF
   refine ns ?_
   refine AWL.weak (rn []) ?_ (ZkC s (i_3 + 1) _ hF)
   exact (WS.mk (tc (Zd (Zp (Zc3 (ZcM ZBQ))) Zb)) Zc)
 ·refine nw ?_
  refine AWP.seq ?_
  refine ns ?_
  obtain rfl := Zh hF
  refine ns ?_
  refine Exists.intro [] ?_
  refine st ?_
  exact wx (WS.mk (tc Zb) Zc)

def Zc7 (s : ByteArray) : Option (Bool) :=
 (if ((decide (((s.size : Nat) : Int) < 1)) || (decide (((s.size : Nat) : Int) > 64))) = true then some true else (btI s 0) >>= fun y8 =>
 Zcs ((y8.toNat : Nat) : Int) >>= fun r9 =>
 (if (!r9) = true then (btI s 0) >>= fun y10 =>
 Zb4 ((y10.toNat : Nat) : Int) >>= fun r11 =>
 some (!r11) else some false) >>= fun c12 =>
 some c12) >>= fun c13 =>
 if c13 = true then
 some false
 else
 Za7 s 0
def Zc7.M (s : ByteArray) (r : Bool) : Prop :=
 Zk Tryz.prog 86 [.c none (.v (.string s))] [] (fun d b => d = .c none (.v (.bool r)) ∧ b = [])
theorem ZmD (s : ByteArray) (r : Bool) (hF : Zc7 s = some r) : Zc7.M s r := by
 unfold Zc7 at hF
 unfold Zc7.M
 refine en Tryz.func86 ?_
 refine AWP.seq ?_
 refine ns ?_
 refine AWP.seq ?_
 refine AWP.seq ?_
 obtain ⟨c13, Zbp, hF⟩ := bind_some hF
 refine AWP.cutN (fun T => ∃ r, WS r T ⟨[(0, .c none (.v (.string s))), (23, .c none (.v (.bool c13)))], []⟩) ?_ (fun T hw => ?_)
 ·refine ns ?_
  refine Zl false (fun Zcx => ?_) (fun Zcx => ?_)
  ·(conv => whnf)
   have Zbp := ift Zcx Zbp
   obtain rfl := Zh Zbp
   refine st ?_
   exact wx (WS.mk (tc (Zd (Zp (web Zcx)) Zb)) Zc)
  ·(conv => whnf)
   refine st ?_
   refine Zl false (fun Zen => ?_) (fun Zen => ?_)
   ·have Zbp := ift (And.intro Zcx Zen) Zbp
    (conv => whnf)
    obtain rfl := Zh Zbp
    refine st ?_
    exact wx (WS.mk (tc (Zd (Zp (web (And.intro Zcx Zen))) Zb)) Zc)
   ·have Zbp := ife (And.intro Zcx Zen) Zbp
    obtain ⟨y8, hy80, hy8, Zbp⟩ := Zcw Zbp
    obtain ⟨r9, hr9, Zbp⟩ := bind_some Zbp
    obtain ⟨c12, ZdO, Zbp⟩ := bind_some Zbp
    (conv => whnf)
    refine sr hy8 ?_
    refine st ?_
    refine e3 ?_
    refine st ?_
    refine cm (Zk.weak (rn []) (Zhw ((y8.toNat : Nat) : Int) _ hr9) rfl (WS.mk (tc Zb) Zc)) ?_
    refine st ?_
    refine Zl true (fun Zdu => ?_) (fun Zdu => ?_)
    ·have ZdO := ift (And.intro Zcx (And.intro Zen Zdu)) ZdO
     obtain ⟨y10, ZB1, ZAX, ZdO⟩ := Zcw ZdO
     obtain ⟨r11, ZrK, ZdO⟩ := bind_some ZdO
     (conv => whnf)
     refine sr ZAX ?_
     refine st ?_
     refine e3 ?_
     refine st ?_
     refine cm (Zk.weak (rn []) (Zft ((y10.toNat : Nat) : Int) _ ZrK) rfl (WS.mk (tc Zb) Zc)) ?_
     refine st ?_
     obtain rfl := Zh ZdO
     obtain rfl := Zh Zbp
     refine st ?_
     exact wx (WS.mk (tc (Zd (Zp (web (And.intro Zcx (And.intro Zen Zdu)))) Zb)) Zc)
    ·have ZdO := ife (And.intro Zcx (And.intro Zen Zdu)) ZdO
     (conv => whnf)
     obtain rfl := Zh ZdO
     obtain rfl := Zh Zbp
     refine st ?_
     exact wx (WS.mk (tc (Zd (Zp (web (And.intro Zcx (And.intro Zen Zdu)))) Zb)) Zc)
 obtain ⟨r0, hw⟩ := hw
 (conv => whnf)
 refine AWP.weak r0 hw ?_
 refine nw ?_
 refine Zj hF (fun Zdd hF => ?_) (fun Zdd hF => ?_)
 ·refine AWP.seq ?_
  refine ns ?_
  obtain rfl := Zh hF
  refine ns ?_
  refine Exists.intro [] ?_
  refine st ?_
  exact wx (WS.mk (tc Zb) Zc)
 ·refine nw ?_
  refine AWP.seq ?_
  refine AWP.seq ?_
  refine ns ?_
  refine AWP.block ?_
  refine AWP.loop ?_
  refine AWL.weak (rn []) ?_ (ZkI s 0 _ hF)
  exact (WS.mk (tc (tc Zb)) Zc)

def Za4 (s : ByteArray) : Option (Int) :=
 Zc7 s >>= fun r10 =>
 if r10 = true then
 Zb8 s >>= fun r14 =>
 if r14 = true then
 some 5
 else
 (btI s 0) >>= fun y16 =>
 Zb4 ((y16.toNat : Nat) : Int) >>= fun r17 =>
 if r17 = true then
 some 2
 else
 some 1
 else
 ZcB s >>= fun r19 =>
 if r19 = true then
 ZaK s >>= fun r23 =>
 if r23 = true then
 some 6
 else
 (btI s 0) >>= fun y25 =>
 if (((y25.toNat : Nat) : Int) == 58) = true then
 some 4
 else
 some 3
 else
 some 0
def Za4.M (s : ByteArray) (r : Int) : Prop :=
 Zk Tryz.prog 59 [.c none (.v (.string s))] [] (fun d b => d = .c none (.v (.int .i64 r)) ∧ b = [])
theorem Zdn (s : ByteArray) (r : Int) (hF : Za4 s = some r) : Za4.M s r := by
 unfold Za4 at hF
 unfold Za4.M
 refine en Tryz.func59 ?_
 refine AWP.seq ?_
 refine ns ?_
 refine AWP.seq ?_
 refine AWP.seq ?_
 obtain ⟨r10, Zqd, hF⟩ := bind_some hF
 refine ns ?_
 refine e3 ?_
 refine st ?_
 refine cm (Zk.weak (rn []) (ZmD s _ Zqd) rfl (WS.mk (tc Zb) Zc)) ?_
 refine st ?_
 refine nw ?_
 refine Zj hF (fun ZbR hF => ?_) (fun ZbR hF => ?_)
 ·refine AWP.seq ?_
  refine AWP.seq ?_
  obtain ⟨r14, Zmp, hF⟩ := bind_some hF
  refine ns ?_
  refine e3 ?_
  refine st ?_
  refine cm (Zk.weak (rn []) (ZjU s _ Zmp) rfl (WS.mk (tc Zb) Zc)) ?_
  refine st ?_
  refine nw ?_
  refine Zj hF (fun Zen hF => ?_) (fun Zen hF => ?_)
  ·refine AWP.seq ?_
   refine ns ?_
   obtain rfl := Zh hF
   refine ns ?_
   refine Exists.intro [] ?_
   refine st ?_
   exact wx (WS.mk (tc Zb) Zc)
  ·refine nw ?_
   refine AWP.seq ?_
   refine AWP.seq ?_
   obtain ⟨y16, hy160, ZEB, hF⟩ := Zcw hF
   obtain ⟨r17, ZFa, hF⟩ := bind_some hF
   refine nn ?_
   refine sr ZEB ?_
   refine st ?_
   refine e3 ?_
   refine st ?_
   refine cm (Zk.weak (rn []) (Zft ((y16.toNat : Nat) : Int) _ ZFa) rfl (WS.mk (tc Zb) Zc)) ?_
   refine st ?_
   refine nw ?_
   refine Zj hF (fun ZiX hF => ?_) (fun ZiX hF => ?_)
   ·refine AWP.seq ?_
    refine ns ?_
    obtain rfl := Zh hF
    refine ns ?_
    refine Exists.intro [] ?_
    refine st ?_
    exact wx (WS.mk (tc Zb) Zc)
   ·refine nw ?_
    refine AWP.seq ?_
    refine ns ?_
    obtain rfl := Zh hF
    refine ns ?_
    refine Exists.intro [] ?_
    refine st ?_
    exact wx (WS.mk (tc Zb) Zc)
 ·refine nw ?_
  refine AWP.seq ?_
  refine AWP.seq ?_
  obtain ⟨r19, Zsh, hF⟩ := bind_some hF
  refine ns ?_
  refine e3 ?_
  refine st ?_
  refine cm (Zk.weak (rn []) (Zll s _ Zsh) rfl (WS.mk (tc Zb) Zc)) ?_
  refine st ?_
  refine nw ?_
  refine Zj hF (fun Zge hF => ?_) (fun Zge hF => ?_)
  ·refine AWP.seq ?_
   refine AWP.seq ?_
   obtain ⟨r23, ZyT, hF⟩ := bind_some hF
   refine ns ?_
   refine e3 ?_
   refine st ?_
   refine cm (Zk.weak (rn []) (Zhn s _ ZyT) rfl (WS.mk (tc Zb) Zc)) ?_
   refine st ?_
   refine nw ?_
   refine Zj hF (fun ZpT hF => ?_) (fun ZpT hF => ?_)
   ·refine AWP.seq ?_
    refine ns ?_
    obtain rfl := Zh hF
    refine ns ?_
    refine Exists.intro [] ?_
    refine st ?_
    exact wx (WS.mk (tc Zb) Zc)
   ·refine nw ?_
    refine AWP.seq ?_
    refine AWP.seq ?_
    obtain ⟨y25, hy250, ZD5, hF⟩ := Zcw hF
    refine nn ?_
    refine sr ZD5 ?_
    refine st ?_
    refine nw ?_
    refine Zj hF (fun Zi2 hF => ?_) (fun Zi2 hF => ?_)
    ·refine AWP.seq ?_
     refine ns ?_
     obtain rfl := Zh hF
     refine ns ?_
     refine Exists.intro [] ?_
     refine st ?_
     exact wx (WS.mk (tc Zb) Zc)
    ·refine nw ?_
     refine AWP.seq ?_
     refine ns ?_
     obtain rfl := Zh hF
     refine ns ?_
     refine Exists.intro [] ?_
     refine st ?_
     exact wx (WS.mk (tc Zb) Zc)
  ·refine nw ?_
   refine AWP.seq ?_
   refine ns ?_
   obtain rfl := Zh hF
   refine ns ?_
   refine Exists.intro [] ?_
   refine st ?_
   exact wx (WS.mk (tc Zb) Zc)

def Zcr (s : ByteArray) : Option (Bool) :=
 Za4 s >>= fun r1 =>
 some ((((r1 == 1) || (r1 == 2)) || (r1 == 3)) || (r1 == 4))
def Zcr.M (s : ByteArray) (r : Bool) : Prop :=
 Zk Tryz.prog 109 [.c none (.v (.string s))] [] (fun d b => d = .c none (.v (.bool r)) ∧ b = [])
theorem ZhI (s : ByteArray) (r : Bool) (hF : Zcr s = some r) : Zcr.M s r := by
 unfold Zcr at hF
 unfold Zcr.M
 refine en Tryz.func109 ?_
 refine AWP.seq ?_
 refine ns ?_
 refine AWP.seq ?_
 obtain ⟨r1, hr1, hF⟩ := bind_some hF
 refine ns ?_
 refine e3 ?_
 refine st ?_
 refine cm (Zk.weak (rn []) (Zdn s _ hr1) rfl (WS.mk (tc Zb) Zc)) ?_
 refine st ?_
 refine AWP.seq ?_
 refine AWP.cutN (fun T => ∃ r, WS r T ⟨[(2, .c none (.v (.bool ((((r1 == 1) || (r1 == 2)) || (r1 == 3)) || (r1 == 4)))))], []⟩) ?_ (fun T hw => ?_)
 ·refine ns ?_
  refine Zl false (fun hc2 => ?_) (fun hc2 => ?_)
  ·(conv => whnf)
   refine st ?_
   exact wx (WS.mk (Zd (Zp (web hc2)) Zb) Zc)
  ·(conv => whnf)
   refine st ?_
   refine Zl false (fun hc3 => ?_) (fun hc3 => ?_)
   ·(conv => whnf)
    refine st ?_
    exact wx (WS.mk (Zd (Zp (web (And.intro hc2 hc3))) Zb) Zc)
   ·(conv => whnf)
    refine st ?_
    refine Zl false (fun hc4 => ?_) (fun hc4 => ?_)
    ·(conv => whnf)
     refine st ?_
     exact wx (WS.mk (Zd (Zp (web (And.intro hc2 (And.intro hc3 hc4)))) Zb) Zc)
    ·(conv => whnf)
     refine st ?_
     exact wx (WS.mk (Zd (Zp (web (And.intro hc2 (And.intro hc3 hc4)))) Zb) Zc)
 obtain ⟨r0, hw⟩ := hw
 (conv => whnf)
 refine AWP.weak r0 hw ?_
 obtain rfl := Zh hF
 refine ns ?_
 refine Exists.intro [] ?_
 refine st ?_
 exact wx (WS.mk (tc Zb) Zc)

def Zc4 (module : ByteArray) (name_ : ByteArray) : Option (ByteArray) :=
 Za4 module >>= fun r5 =>
 (if (r5 != 2) = true then some true else Zcr name_ >>= fun r6 =>
 some (!r6)) >>= fun c7 =>
 if c7 = true then
 some (ByteArray.mk #[])
 else
 Zac (((module.size + (ByteArray.mk #[46]).size : Nat) : Int) ≤ IntKind.i64.max) >>= fun _ =>
 Zac ((((module ++ (ByteArray.mk #[46])).size + name_.size : Nat) : Int) ≤ IntKind.i64.max) >>= fun _ =>
 some ((module ++ (ByteArray.mk #[46])) ++ name_)
def Zc4.M (module : ByteArray) (name_ : ByteArray) (r : ByteArray) : Prop :=
 Zk Tryz.prog 129 [.c none (.v (.string module)), .c none (.v (.string name_))] [] (fun d b => d = .c none (.v (.string r)) ∧ b = [])
theorem Zmg (module : ByteArray) (name_ : ByteArray) (r : ByteArray) (hF : Zc4 module name_ = some r) : Zc4.M module name_ r := by
 unfold Zc4 at hF
 unfold Zc4.M
 refine en Tryz.func129 ?_
 refine AWP.seq ?_
 refine ns ?_
 refine AWP.seq ?_
 refine AWP.seq ?_
 obtain ⟨r5, hr5, hF⟩ := bind_some hF
 obtain ⟨c7, hc7, hF⟩ := bind_some hF
 refine AWP.cutN (fun T => ∃ r, WS r T ⟨[(0, .c none (.v (.string module))), (1, .c none (.v (.string name_))), (12, .c none (.v (.bool c7)))], []⟩) ?_ (fun T hw => ?_)
 ·refine ns ?_
  refine e3 ?_
  refine st ?_
  refine cm (Zk.weak (rn []) (Zdn module _ hr5) rfl (WS.mk (tc Zb) Zc)) ?_
  refine st ?_
  refine Zl false (fun hc8 => ?_) (fun hc8 => ?_)
  ·have hc7 := ift hc8 hc7
   (conv => whnf)
   obtain rfl := Zh hc7
   refine st ?_
   exact wx (WS.mk (tc (tc (Zd (Zp (web hc8)) Zb))) Zc)
  ·have hc7 := ife hc8 hc7
   obtain ⟨r6, hr6, hc7⟩ := bind_some hc7
   (conv => whnf)
   refine st ?_
   refine e3 ?_
   refine st ?_
   refine cm (Zk.weak (rn []) (ZhI name_ _ hr6) rfl (WS.mk (tc Zb) Zc)) ?_
   refine st ?_
   obtain rfl := Zh hc7
   refine st ?_
   exact wx (WS.mk (tc (tc (Zd (Zp (web hc8)) Zb))) Zc)
 obtain ⟨r0, hw⟩ := hw
 (conv => whnf)
 refine AWP.weak r0 hw ?_
 refine nw ?_
 refine Zj hF (fun hc9 hF => ?_) (fun hc9 hF => ?_)
 ·refine AWP.seq ?_
  refine ns ?_
  obtain rfl := Zh hF
  refine ns ?_
  refine Exists.intro [] ?_
  refine st ?_
  exact wx (WS.mk (tc Zb) Zc)
 ·refine nw ?_
  refine AWP.seq ?_
  obtain ⟨ZyM, hF⟩ := ZD hF
  obtain ⟨Zz3, hF⟩ := ZD hF
  refine ns ?_
  refine And.intro ZyM ?_
  refine st ?_
  refine And.intro Zz3 ?_
  refine st ?_
  obtain rfl := Zh hF
  refine ns ?_
  refine Exists.intro [] ?_
  refine st ?_
  exact wx (WS.mk (tc Zb) Zc)

def ZaN (s : ByteArray) (i_5 : Nat) : Option (ByteArray × ByteArray × Bool) :=
 if (decide (((i_5 : Nat) : Int) < ((s.size : Nat) : Int))) = true then
 (btI s ((i_5 : Nat) : Int)) >>= fun y60 =>
 if (((y60.toNat : Nat) : Int) != 46) = true then
 Zac (i_5 + 1 ≤ 9223372036854775807) >>= fun _ =>
 ZaN s (i_5 + 1)
 else
 (slS s ((0 : Nat) : Int) ((i_5 : Nat) : Int)) >>= fun z76 =>
 Zac (i_5 + 1 ≤ 9223372036854775807) >>= fun _ =>
 (slS s (IntKind.i64.wrap (((i_5 : Nat) : Int) + 1)) ((s.size : Nat) : Int)) >>= fun z78 =>
 Zc4 z76 z78 >>= fun r79 =>
 if (r79.toList == (ByteArray.mk #[]).toList) = true then
 some ((ByteArray.mk #[]), (ByteArray.mk #[]), false)
 else
 (slS s ((0 : Nat) : Int) ((i_5 : Nat) : Int)) >>= fun z84 =>
 Zac (i_5 + 1 ≤ 9223372036854775807) >>= fun _ =>
 (slS s (IntKind.i64.wrap (((i_5 : Nat) : Int) + 1)) ((s.size : Nat) : Int)) >>= fun z86 =>
 some (z84, z86, true)
 else
 some ((ByteArray.mk #[]), (ByteArray.mk #[]), false)
 partial_fixpoint
def ZaN.M (s : ByteArray) (i_5 : Nat) (r : ByteArray × ByteArray × Bool) : Prop :=
 AWL Tryz.prog 32 (Code.sub (Zs Tryz.f108) [1, 0, 1, 0, 0]) (Code.cont Tryz.prog 32 (Zs Tryz.f108) [1, 0, 1, 0] (Zce tab Tryz.f108.results (Zch (.tup [.c (.v (.string r.1)), .c (.v (.string r.2.1)), .c (.v (.bool r.2.2))]) []))) ⟨[(0, .c none (.v (.string s))), (5, .c none (.v (.int .i64 ((i_5 : Nat) : Int))))], []⟩
theorem Zj2 (s : ByteArray) (i_5 : Nat) : ∀ r, ZaN s i_5 = some r → ZaN.M s i_5 r := by
 refine ZaN.partial_correctness s (fun i_5 r => ZaN.M s i_5 r) ?_ i_5
 intro lazycref01_Split_l1' Zf4 i_5 r hF
 have Zj0 := fun (_s : ByteArray) (i_5 : Nat) => Zf4 i_5
 clear Zf4
 unfold ZaN.M
 refine AWL.step ?_
 refine AWP.seq ?_
 refine AWP.seq ?_
 refine ns ?_
 refine nw ?_
 refine Zj hF (fun Zij hF => ?_) (fun Zij hF => ?_)
 ·refine nw ?_
  refine AWP.seq ?_
  refine AWP.block ?_
  refine AWP.seq ?_
  refine AWP.seq ?_
  obtain ⟨y60, hy600, ZDs, hF⟩ := Zcw hF
  refine nn ?_
  refine sr ZDs ?_
  refine st ?_
  refine nw ?_
  refine Zj hF (fun ZFe hF => ?_) (fun ZFe hF => ?_)
  ·refine nw ?_
   obtain ⟨ZE5, hF⟩ := ZD hF
   refine ns ?_
   refine AWL.weak (rn []) ?_ (Zj0 s (i_5 + 1) _ hF)
   exact (WS.mk (tc (Zd (Zp (Zc3 (ZcM ZE5))) Zb)) Zc)
  ·refine nw ?_
   refine AWP.seq ?_
   refine AWP.seq ?_
   obtain ⟨z76, ZCq, ZB0, ZCj, ZEY, hF⟩ := Ze6 hF
   obtain ⟨hg77, hF⟩ := ZD hF
   obtain ⟨z78, ZCo, ZCp, ZB5, ZDS, hF⟩ := Ze6 hF
   obtain ⟨r79, ZEF, hF⟩ := bind_some hF
   refine nn ?_
   refine Or.inl (Or.inl (Exists.intro 7 (Exists.intro [[], [], [], [], [], [], []] (Exists.intro [([16, 17, 18, 19, 20, 21, 22], [], []), ([16, 17, 18, 19, 20, 21, 22], [], []), ([18, 19, 20, 21, 22], [], []), ([16, 17, 18, 19, 20, 21, 22], [], []), ([16, 17, 18, 19, 20, 21, 22], [], []), ([16, 17, 18, 19, 21, 22], [], []), ([16, 17, 18, 22], [], [])] (Exists.intro [16, 17, 18, 19, 20, 21, 22] (And.intro (by decide +kernel) ?_))))))
   refine dp ?_
   refine dp ?_
   (refine st ?_; apply Exists.intro; apply Exists.intro; apply And.intro; (focus ((repeat (first | (rw [← ZEY]) | ((conv => whnf); (with_reducible refine And.intro ?_ ?_); (focus (first | exact Eq.refl _ | exact trivial | (with_reducible assumption) | (with_reducible exact Int.natCast_nonneg _) | exact Nat.le_of_ble_eq_true (Eq.refl true) | exact ZcV (Eq.refl _) (Eq.refl _) (Eq.refl _) | decide))) | ((with_reducible refine And.intro ?_ ?_); (focus (first | exact ZCq | exact ZB0 | exact ZCj))))) <;> (exact rfl))); apply And.intro; (focus exact rfl); (conv => whnf))
   refine dp ?_
   refine dp ?_
   refine dp ?_
   (refine st ?_; apply Exists.intro; apply Exists.intro; apply And.intro; (focus ((repeat (first | (rw [← ZDS]) | ((conv => whnf); (with_reducible refine And.intro ?_ ?_); (focus (first | exact Eq.refl _ | exact trivial | (with_reducible assumption) | (with_reducible exact Int.natCast_nonneg _) | exact Nat.le_of_ble_eq_true (Eq.refl true) | exact ZcV (Eq.refl _) (Eq.refl _) (Eq.refl _) | decide))) | ((with_reducible refine And.intro ?_ ?_); (focus (first | exact ZCo | exact ZCp | exact ZB5))))) <;> (exact rfl))); apply And.intro; (focus exact rfl); (conv => whnf))
   refine st ?_
   refine e3 ?_
   refine st ?_
   refine cm (Zk.weak (rn []) (Zmg z76 z78 _ ZEF) rfl (WS.mk (tc (tc Zb)) Zc)) ?_
   refine st ?_
   refine nw ?_
   refine Zj hF (fun ZDN hF => ?_) (fun ZDN hF => ?_)
   ·refine AWP.seq ?_
    refine ns ?_
    obtain rfl := Zh hF
    refine ns ?_
    refine Exists.intro [] ?_
    refine st ?_
    exact wx (WS.mk (Zd (Zcg (ZbV (WE.refl _) (ZbV (WE.refl _) (ZbV (WE.refl _) Zck)))) Zb) Zc)
   ·refine nw ?_
    refine AWP.seq ?_
    obtain ⟨z84, ZCR, ZCM, ZCA, ZFg, hF⟩ := Ze6 hF
    obtain ⟨ZB4, hF⟩ := ZD hF
    obtain ⟨z86, ZCg, ZCH, ZC4, ZFu, hF⟩ := Ze6 hF
    refine nn ?_
    refine Or.inl (Or.inl (Exists.intro 8 (Exists.intro [[], [], [], [], [], [], [], []] (Exists.intro [([25, 26, 27, 28, 29, 30, 31, 2], [], []), ([25, 26, 27, 28, 29, 30, 31, 2], [], []), ([27, 28, 29, 30, 31, 2], [], []), ([25, 26, 27, 28, 29, 30, 31, 2], [], []), ([25, 26, 27, 28, 29, 30, 31, 2], [], []), ([25, 26, 27, 28, 30, 31, 2], [], []), ([25, 26, 27, 31, 2], [], []), ([28, 29, 30, 31, 2], [], [])] (Exists.intro [25, 26, 27, 28, 29, 30, 31, 2] (And.intro (by decide +kernel) ?_))))))
    refine dp ?_
    refine dp ?_
    (refine st ?_; apply Exists.intro; apply Exists.intro; apply And.intro; (focus ((repeat (first | (rw [← ZFg]) | ((conv => whnf); (with_reducible refine And.intro ?_ ?_); (focus (first | exact Eq.refl _ | exact trivial | (with_reducible assumption) | (with_reducible exact Int.natCast_nonneg _) | exact Nat.le_of_ble_eq_true (Eq.refl true) | exact ZcV (Eq.refl _) (Eq.refl _) (Eq.refl _) | decide))) | ((with_reducible refine And.intro ?_ ?_); (focus (first | exact ZCR | exact ZCM | exact ZCA))))) <;> (exact rfl))); apply And.intro; (focus exact rfl); (conv => whnf))
    refine dp ?_
    refine dp ?_
    refine dp ?_
    (refine st ?_; apply Exists.intro; apply Exists.intro; apply And.intro; (focus ((repeat (first | (rw [← ZFu]) | ((conv => whnf); (with_reducible refine And.intro ?_ ?_); (focus (first | exact Eq.refl _ | exact trivial | (with_reducible assumption) | (with_reducible exact Int.natCast_nonneg _) | exact Nat.le_of_ble_eq_true (Eq.refl true) | exact ZcV (Eq.refl _) (Eq.refl _) (Eq.refl _) | decide))) | ((with_reducible refine And.intro ?_ ?_); (focus (first | exact ZCg | exact ZCH | exact ZC4))))) <;> (exact rfl))); apply And.intro; (focus exact rfl); (conv => whnf))
    refine dp ?_
    refine st ?_
    obtain rfl := Zh hF
    refine ns ?_
    refine Exists.intro [] ?_
    refine st ?_
    exact wx (WS.mk (Zd (Zcg (ZbV (WE.refl _) (ZbV (WE.refl _) (ZbV (WE.refl _) Zck)))) Zb) Zc)
 ·refine nw ?_
  refine AWP.seq ?_
  refine ns ?_
  obtain rfl := Zh hF
  refine ns ?_
  refine Exists.intro [] ?_
  refine st ?_
  exact wx (WS.mk (Zd (Zcg (ZbV (WE.refl _) (ZbV (WE.refl _) (ZbV (WE.refl _) Zck)))) Zb) Zc)

def Zcv (s : ByteArray) : Option (ByteArray × ByteArray × Bool) :=
 ZaN s 0
def Zcv.M (s : ByteArray) (r : ByteArray × ByteArray × Bool) : Prop :=
 Zk Tryz.prog 108 [.c none (.v (.string s))] [] (fun d b => d = .tup [.c (.v (.string r.1)), .c (.v (.string r.2.1)), .c (.v (.bool r.2.2))] ∧ b = [])
theorem ZhJ (s : ByteArray) (r : ByteArray × ByteArray × Bool) (hF : Zcv s = some r) : Zcv.M s r := by
 unfold Zcv at hF
 unfold Zcv.M
 refine en Tryz.func108 ?_
 refine AWP.seq ?_
 refine ns ?_
 refine AWP.seq ?_
 refine AWP.seq ?_
 refine ns ?_
 refine AWP.block ?_
 refine AWP.loop ?_
 refine AWL.weak (rn []) ?_ (Zj2 s 0 _ hF)
 exact (WS.mk (tc (tc Zb)) Zc)

def ZcI (s : ByteArray) : Option (Bool) :=
 Zcv s >>= fun r1 =>
 (if r1.2.2 = true then some true else Zcr s >>= fun r2 =>
 some r2) >>= fun c3 =>
 some c3
def ZcI.M (s : ByteArray) (r : Bool) : Prop :=
 Zk Tryz.prog 84 [.c none (.v (.string s))] [] (fun d b => d = .c none (.v (.bool r)) ∧ b = [])
theorem Zmu (s : ByteArray) (r : Bool) (hF : ZcI s = some r) : ZcI.M s r := by
 unfold ZcI at hF
 unfold ZcI.M
 refine en Tryz.func84 ?_
 refine AWP.seq ?_
 refine ns ?_
 refine AWP.seq ?_
 obtain ⟨r1, hr1, hF⟩ := bind_some hF
 refine ns ?_
 refine e3 ?_
 refine st ?_
 refine cm (Zk.weak (rn []) (ZhJ s _ hr1) rfl (WS.mk (tc Zb) Zc)) ?_
 refine st ?_
 refine AWP.seq ?_
 obtain ⟨c3, hc3, hF⟩ := bind_some hF
 refine AWP.cutN (fun T => ∃ r, WS r T ⟨[(2, .c none (.v (.bool c3)))], []⟩) ?_ (fun T hw => ?_)
 ·refine ns ?_
  refine Zl false (fun hc4 => ?_) (fun hc4 => ?_)
  ·have hc3 := ift hc4 hc3
   (conv => whnf)
   obtain rfl := Zh hc3
   refine st ?_
   exact wx (WS.mk (Zd (Zp (web hc4)) Zb) Zc)
  ·have hc3 := ife hc4 hc3
   obtain ⟨r2, hr2, hc3⟩ := bind_some hc3
   (conv => whnf)
   refine st ?_
   refine e3 ?_
   refine st ?_
   refine cm (Zk.weak (rn []) (ZhI s _ hr2) rfl (WS.mk (tc Zb) Zc)) ?_
   refine st ?_
   obtain rfl := Zh hc3
   refine st ?_
   exact wx (WS.mk (Zd (Zp (web hc4)) Zb) Zc)
 obtain ⟨r0, hw⟩ := hw
 (conv => whnf)
 refine AWP.weak r0 hw ?_
 obtain rfl := Zh hF
 refine ns ?_
 refine Exists.intro [] ?_
 refine st ?_
 exact wx (WS.mk (tc Zb) Zc)

def ZaB (s : ByteArray) (n_4 : Int) (i_5 : Nat) : Option (Int × Bool) :=
 if (decide (((i_5 : Nat) : Int) < ((s.size : Nat) : Int))) = true then
 (btI s ((i_5 : Nat) : Int)) >>= fun y37 =>
 Zco ((y37.toNat : Nat) : Int) >>= fun r38 =>
 if (!r38) = true then
 some (0, false)
 else
 (btI s ((i_5 : Nat) : Int)) >>= fun y40 =>
 if (decide (n_4 > (IntKind.i64.wrap (Int.tdiv (IntKind.i64.wrap (9223372036854775807 - (IntKind.i64.wrap (IntKind.u8.wrap (((y40.toNat : Nat) : Int) - 48))))) 10)))) = true then
 some (0, false)
 else
 Zac (i_5 + 1 ≤ 9223372036854775807) >>= fun _ =>
 ZaB s (IntKind.i64.wrap ((IntKind.i64.wrap (10 * n_4)) + (IntKind.i64.wrap (IntKind.u8.wrap (((y40.toNat : Nat) : Int) - 48))))) (i_5 + 1)
 else
 some (n_4, true)
 partial_fixpoint
def ZaB.M (s : ByteArray) (n_4 : Int) (i_5 : Nat) (r : Int × Bool) : Prop :=
 AWL Tryz.prog 45 (Code.sub (Zs Tryz.f85) [1, 1, 1, 0, 1, 0, 0]) (Code.cont Tryz.prog 45 (Zs Tryz.f85) [1, 1, 1, 0, 1, 0] (Zce tab Tryz.f85.results (Zch (.tup [.c (.v (.int .i64 r.1)), .c (.v (.bool r.2))]) []))) ⟨[(0, .c none (.v (.string s))), (4, .c none (.v (.int .i64 n_4))), (5, .c none (.v (.int .i64 ((i_5 : Nat) : Int))))], []⟩
theorem Zjw (s : ByteArray) (n_4 : Int) (i_5 : Nat) : ∀ r, ZaB s n_4 i_5 = some r → ZaB.M s n_4 i_5 r := by
 refine ZaB.partial_correctness s (fun n_4 i_5 r => ZaB.M s n_4 i_5 r) ?_ n_4 i_5
 intro lazycref01_number_l1' ZfI n_4 i_5 r hF
 have Zjg := fun (_s : ByteArray) (n_4 : Int) (i_5 : Nat) => ZfI n_4 i_5
 clear ZfI
 unfold ZaB.M
 refine AWL.step ?_
 refine AWP.seq ?_
 refine AWP.seq ?_
 refine ns ?_
 refine nw ?_
 refine Zj hF (fun Zn0 hF => ?_) (fun Zn0 hF => ?_)
 ·refine nw ?_
  refine AWP.seq ?_
  refine AWP.block ?_
  refine AWP.seq ?_
  refine AWP.seq ?_
  obtain ⟨y37, hy370, ZEk, hF⟩ := Zcw hF
  obtain ⟨r38, Zxn, hF⟩ := bind_some hF
  refine nn ?_
  refine sr ZEk ?_
  refine st ?_
  refine e3 ?_
  refine st ?_
  refine cm (Zk.weak (rn []) (Zhy ((y37.toNat : Nat) : Int) _ Zxn) rfl (WS.mk (tc Zb) Zc)) ?_
  refine st ?_
  refine nw ?_
  refine Zj hF (fun ZhP hF => ?_) (fun ZhP hF => ?_)
  ·refine AWP.seq ?_
   refine ns ?_
   obtain rfl := Zh hF
   refine ns ?_
   refine Exists.intro [] ?_
   refine st ?_
   exact wx (WS.mk (Zd (Zcg (ZbV (WE.refl _) (ZbV (WE.refl _) Zck))) Zb) Zc)
  ·refine nw ?_
   refine AWP.seq ?_
   obtain ⟨y40, hy400, ZCy, hF⟩ := Zcw hF
   refine nn ?_
   refine sr ZCy ?_
   refine st ?_
   refine AWP.seq ?_
   refine AWP.seq ?_
   refine ns ?_
   refine nw ?_
   refine Zj hF (fun ZqU hF => ?_) (fun ZqU hF => ?_)
   ·refine AWP.seq ?_
    refine ns ?_
    obtain rfl := Zh hF
    refine ns ?_
    refine Exists.intro [] ?_
    refine st ?_
    exact wx (WS.mk (Zd (Zcg (ZbV (WE.refl _) (ZbV (WE.refl _) Zck))) Zb) Zc)
   ·refine nw ?_
    refine ns ?_
    obtain ⟨ZE2, hF⟩ := ZD hF
    refine ns ?_
    refine AWL.weak (rn []) ?_ (Zjg s (IntKind.i64.wrap ((IntKind.i64.wrap (10 * n_4)) + (IntKind.i64.wrap (IntKind.u8.wrap (((y40.toNat : Nat) : Int) - 48))))) (i_5 + 1) _ hF)
    exact (WS.mk (tc (tc (Zd (Zp (Zc3 (ZcM ZE2))) Zb))) Zc)
 ·refine nw ?_
  refine AWP.seq ?_
  refine ns ?_
  obtain rfl := Zh hF
  refine ns ?_
  refine Exists.intro [] ?_
  refine st ?_
  exact wx (WS.mk (Zd (Zcg (ZbV (WE.refl _) (ZbV (WE.refl _) Zck))) Zb) Zc)

def Zcb (s : ByteArray) : Option (Int × Bool) :=
 (if (s.toList == (ByteArray.mk #[]).toList) = true then some true else (btI s 0) >>= fun y4 =>
 some ((((y4.toNat : Nat) : Int) == 48) && (decide (((s.size : Nat) : Int) > 1)))) >>= fun c5 =>
 if c5 = true then
 some (0, false)
 else
 ZaB s 0 0
def Zcb.M (s : ByteArray) (r : Int × Bool) : Prop :=
 Zk Tryz.prog 85 [.c none (.v (.string s))] [] (fun d b => d = .tup [.c (.v (.int .i64 r.1)), .c (.v (.bool r.2))] ∧ b = [])
theorem ZkO (s : ByteArray) (r : Int × Bool) (hF : Zcb s = some r) : Zcb.M s r := by
 unfold Zcb at hF
 unfold Zcb.M
 refine en Tryz.func85 ?_
 refine AWP.seq ?_
 refine ns ?_
 refine AWP.seq ?_
 refine AWP.seq ?_
 obtain ⟨c5, hc5, hF⟩ := bind_some hF
 refine AWP.cutN (fun T => ∃ r, WS r T ⟨[(0, .c none (.v (.string s))), (18, .c none (.v (.bool c5)))], []⟩) ?_ (fun T hw => ?_)
 ·refine ns ?_
  refine Zl false (fun hc6 => ?_) (fun hc6 => ?_)
  ·have hc5 := ift hc6 hc5
   (conv => whnf)
   obtain rfl := Zh hc5
   refine st ?_
   exact wx (WS.mk (tc (Zd (Zp (web hc6)) Zb)) Zc)
  ·have hc5 := ife hc6 hc5
   obtain ⟨y4, ZCy, hy4, hc5⟩ := Zcw hc5
   (conv => whnf)
   refine sr hy4 ?_
   refine st ?_
   refine Zl true (fun hc7 => ?_) (fun hc7 => ?_)
   ·(conv => whnf)
    obtain rfl := Zh hc5
    refine st ?_
    exact wx (WS.mk (tc (Zd (Zp (web (And.intro hc6 hc7))) Zb)) Zc)
   ·(conv => whnf)
    obtain rfl := Zh hc5
    refine st ?_
    exact wx (WS.mk (tc (Zd (Zp (web (And.intro hc6 hc7))) Zb)) Zc)
 obtain ⟨r0, hw⟩ := hw
 (conv => whnf)
 refine AWP.weak r0 hw ?_
 refine nw ?_
 refine Zj hF (fun hc8 hF => ?_) (fun hc8 hF => ?_)
 ·refine AWP.seq ?_
  refine ns ?_
  obtain rfl := Zh hF
  refine ns ?_
  refine Exists.intro [] ?_
  refine st ?_
  exact wx (WS.mk (Zd (Zcg (ZbV (WE.refl _) (ZbV (WE.refl _) Zck))) Zb) Zc)
 ·refine nw ?_
  refine AWP.seq ?_
  refine ns ?_
  refine AWP.seq ?_
  refine AWP.seq ?_
  refine ns ?_
  refine AWP.block ?_
  refine AWP.loop ?_
  refine AWL.weak (rn []) ?_ (Zjw s 0 0 _ hF)
  exact (WS.mk (tc (tc (tc Zb))) Zc)

def ZaF (s : ByteArray) (ZgF : Int) (i_6 : Nat) : Option (ByteArray × Int × Bool) :=
 if (decide (((i_6 : Nat) : Int) < ((s.size : Nat) : Int))) = true then
 (btI s ((i_6 : Nat) : Int)) >>= fun y29 =>
 if (((y29.toNat : Nat) : Int) == 36) = true then
 Zac (i_6 + 1 ≤ 9223372036854775807) >>= fun _ =>
 ZaF s ((i_6 : Nat) : Int) (i_6 + 1)
 else
 Zac (i_6 + 1 ≤ 9223372036854775807) >>= fun _ =>
 ZaF s ZgF (i_6 + 1)
 else
 (if (decide (ZgF < 0)) = true then some true else (slS s ((0 : Nat) : Int) ZgF) >>= fun z37 =>
 ZcI z37 >>= fun r38 =>
 some (!r38)) >>= fun c39 =>
 if c39 = true then
 some ((ByteArray.mk #[]), 0, false)
 else
 (slS s (IntKind.i64.wrap (ZgF + 1)) ((s.size : Nat) : Int)) >>= fun z42 =>
 Zcb z42 >>= fun r43 =>
 if (!r43.2) = true then
 some ((ByteArray.mk #[]), 0, false)
 else
 (slS s ((0 : Nat) : Int) ZgF) >>= fun z46 =>
 some (z46, r43.1, true)
 partial_fixpoint
def ZaF.M (s : ByteArray) (ZgF : Int) (i_6 : Nat) (r : ByteArray × Int × Bool) : Prop :=
 AWL Tryz.prog 43 (Code.sub (Zs Tryz.f58) [1, 1, 0, 1, 0, 0]) (Code.cont Tryz.prog 43 (Zs Tryz.f58) [1, 1, 0, 1, 0] (Zce tab Tryz.f58.results (Zch (.tup [.c (.v (.string r.1)), .c (.v (.int .i64 r.2.1)), .c (.v (.bool r.2.2))]) []))) ⟨[(0, .c none (.v (.string s))), (5, .c none (.v (.int .i64 ZgF))), (6, .c none (.v (.int .i64 ((i_6 : Nat) : Int))))], []⟩
theorem ZkA (s : ByteArray) (ZgF : Int) (i_6 : Nat) : ∀ r, ZaF s ZgF i_6 = some r → ZaF.M s ZgF i_6 r := by
 refine ZaF.partial_correctness s (fun ZgF i_6 r => ZaF.M s ZgF i_6 r) ?_ ZgF i_6
 intro lazycref01_Base_l1' ZgD ZgF i_6 r hF
 have ZgI := fun (_s : ByteArray) (ZgF : Int) (i_6 : Nat) => ZgD ZgF i_6
 clear ZgD
 unfold ZaF.M
 refine AWL.step ?_
 refine AWP.seq ?_
 refine AWP.seq ?_
 refine ns ?_
 refine nw ?_
 refine Zj hF (fun Zxg hF => ?_) (fun Zxg hF => ?_)
 ·refine nw ?_
  refine AWP.seq ?_
  refine AWP.block ?_
  refine AWP.seq ?_
  obtain ⟨y29, hy290, ZEQ, hF⟩ := Zcw hF
  refine nn ?_
  refine sr ZEQ ?_
  refine st ?_
  refine nw ?_
  refine Zj hF (fun ZkZ hF => ?_) (fun ZkZ hF => ?_)
  ·refine ns ?_
   obtain ⟨ZEj, hF⟩ := ZD hF
   refine ns ?_
   refine AWL.weak (rn []) ?_ (ZgI s ((i_6 : Nat) : Int) (i_6 + 1) _ hF)
   exact (WS.mk (tc (tc (Zd (Zp (Zc3 (ZcM ZEj))) Zb))) Zc)
  ·refine nw ?_
   obtain ⟨ZBv, hF⟩ := ZD hF
   refine ns ?_
   refine AWL.weak (rn []) ?_ (ZgI s ZgF (i_6 + 1) _ hF)
   exact (WS.mk (tc (tc (Zd (Zp (Zc3 (ZcM ZBv))) Zb))) Zc)
 ·refine nw ?_
  refine AWP.seq ?_
  refine AWP.seq ?_
  obtain ⟨c39, ZhP, hF⟩ := bind_some hF
  refine AWP.cutN (fun T => ∃ r, WS r T ⟨[(0, .c none (.v (.string s))), (5, .c none (.v (.int .i64 ZgF))), (28, .c none (.v (.bool c39)))], []⟩) ?_ (fun T hw => ?_)
  ·refine ns ?_
   refine Zl false (fun Zmk => ?_) (fun Zmk => ?_)
   ·have ZhP := ift Zmk ZhP
    (conv => whnf)
    obtain rfl := Zh ZhP
    refine st ?_
    exact wx (WS.mk (tc (tc (Zd (Zp (web Zmk)) Zb))) Zc)
   ·have ZhP := ife Zmk ZhP
    obtain ⟨z37, ZCG, ZCf, ZCb, ZEt, ZhP⟩ := Ze6 ZhP
    obtain ⟨r38, Zxn, ZhP⟩ := bind_some ZhP
    (conv => whnf)
    refine s3 ZCG ZCf ZCb ?_
    rw [← ZEt]
    refine st ?_
    refine e3 ?_
    refine st ?_
    refine cm (Zk.weak (rn []) (Zmu z37 _ Zxn) rfl (WS.mk (tc Zb) Zc)) ?_
    refine st ?_
    obtain rfl := Zh ZhP
    refine st ?_
    exact wx (WS.mk (tc (tc (Zd (Zp (web Zmk)) Zb))) Zc)
  obtain ⟨r0, hw⟩ := hw
  (conv => whnf)
  refine AWP.weak r0 hw ?_
  refine nw ?_
  refine Zj hF (fun Zyu hF => ?_) (fun Zyu hF => ?_)
  ·refine AWP.seq ?_
   refine ns ?_
   obtain rfl := Zh hF
   refine ns ?_
   refine Exists.intro [] ?_
   refine st ?_
   exact wx (WS.mk (Zd (Zcg (ZbV (WE.refl _) (ZbV (WE.refl _) (ZbV (WE.refl _) Zck)))) Zb) Zc)
  ·refine nw ?_
   refine AWP.seq ?_
   obtain ⟨z42, ZCB, ZDd, ZDn, ZBT, hF⟩ := Ze6 hF
   obtain ⟨r43, ZE9, hF⟩ := bind_some hF
   refine nn ?_
   refine s3 ZCB ZDd ZDn ?_
   rw [← ZBT]
   refine st ?_
   refine e3 ?_
   refine st ?_
   refine cm (Zk.weak (rn []) (ZkO z42 _ ZE9) rfl (WS.mk (tc Zb) Zc)) ?_
   refine st ?_
   refine AWP.seq ?_
   refine AWP.seq ?_
   refine ns ?_
   refine nw ?_
   refine Zj hF (fun ZAi hF => ?_) (fun ZAi hF => ?_)
   ·refine AWP.seq ?_
    refine ns ?_
    obtain rfl := Zh hF
    refine ns ?_
    refine Exists.intro [] ?_
    refine st ?_
    exact wx (WS.mk (Zd (Zcg (ZbV (WE.refl _) (ZbV (WE.refl _) (ZbV (WE.refl _) Zck)))) Zb) Zc)
   ·refine nw ?_
    refine AWP.seq ?_
    obtain ⟨z46, ZCm, ZC5, ZCE, ZD3, hF⟩ := Ze6 hF
    refine nn ?_
    refine s3 ZCm ZC5 ZCE ?_
    rw [← ZD3]
    refine st ?_
    obtain rfl := Zh hF
    refine ns ?_
    refine Exists.intro [] ?_
    refine st ?_
    exact wx (WS.mk (Zd (Zcg (ZbV (WE.refl _) (ZbV (WE.refl _) (ZbV (WE.refl _) Zck)))) Zb) Zc)

def ZcK (s : ByteArray) : Option (ByteArray × Int × Bool) :=
 ZaF s (-1) 0
def ZcK.M (s : ByteArray) (r : ByteArray × Int × Bool) : Prop :=
 Zk Tryz.prog 58 [.c none (.v (.string s))] [] (fun d b => d = .tup [.c (.v (.string r.1)), .c (.v (.int .i64 r.2.1)), .c (.v (.bool r.2.2))] ∧ b = [])
theorem Zio (s : ByteArray) (r : ByteArray × Int × Bool) (hF : ZcK s = some r) : ZcK.M s r := by
 unfold ZcK at hF
 unfold ZcK.M
 refine en Tryz.func58 ?_
 refine AWP.seq ?_
 refine ns ?_
 refine AWP.seq ?_
 refine ns ?_
 refine AWP.seq ?_
 refine AWP.seq ?_
 refine ns ?_
 refine AWP.block ?_
 refine AWP.loop ?_
 refine AWL.weak (rn []) ?_ (ZkA s (-1) 0 _ hF)
 exact (WS.mk (tc (tc (tc Zb))) Zc)

mutual
def ZbP (t : Za) : Option (Int) :=
 ZcG 0 t 0 t.fKids
 partial_fixpoint
def ZcG (n_3 : Int) (t : Za) (x_9 : Nat) (ZbQ : (List Za)) : Option (Int) :=
 (match ZbQ with
 | x11 :: ZjF =>
 ZbP x11 >>= fun r14 =>
 ZcG (if r14 > n_3 then r14 else n_3) t (x_9 + 1) ZjF
 | [] =>
 some (IntKind.i64.wrap (n_3 + 1)))
 partial_fixpoint
end
def ZbP.M (t : Za) (r : Int) : Prop :=
 Zk Tryz.prog 77 [.agg [.v (.int .i64 t.fOp), .v (.string t.fName), .sl (t.fBound.fArgs.map Zi.cells), .sl (t.fKids.map Za.cells)]] [] (fun d b => d = .c none (.v (.int .i64 r)) ∧ b = [])
def ZcG.M (n_3 : Int) (t : Za) (x_9 : Nat) (ZbQ : (List Za)) (r : Int) : Prop :=
 ∀ ZcO : List Za, t.fKids = ZcO ++ ZbQ → x_9 = ZcO.length → t.fKids.length ≤ maxLen → AWL Tryz.prog 20 (Code.sub (Zs Tryz.f77) [1, 1, 0, 1, 0, 0]) (Code.cont Tryz.prog 20 (Zs Tryz.f77) [1, 1, 0, 1, 0] (Zce tab Tryz.f77.results (Zch (.c none (.v (.int .i64 r))) []))) ⟨[(3, .c none (.v (.int .i64 n_3))), (7, .c none (.sl (t.fKids.map Za.cells))), (8, .c none (.v (.int .i64 ((t.fKids.length : Nat) : Int)))), (9, .c none (.v (.int .i64 ((x_9 : Nat) : Int))))], []⟩
theorem ZoI : (∀ (t : Za), ∀ r, ZbP t = some r → ZbP.M t r) ∧ (∀ (n_3 : Int) (t : Za) (x_9 : Nat) (ZbQ : (List Za)), ∀ r, ZcG n_3 t x_9 ZbQ = some r → ZcG.M n_3 t x_9 ZbQ r) := by
 refine ZbP.mutual_partial_correctness ZbP.M ZcG.M ?_ ?_
 ·intro types_Depth_l1' Zgl t r hF
  unfold ZbP.M
  refine en Tryz.func77 ?_
  refine AWP.seq ?_
  refine ns ?_
  refine AWP.seq ?_
  refine ns ?_
  refine AWP.seq ?_
  refine AWP.seq ?_
  refine ns ?_
  intro hlen1
  (try rw [List.length_map] at hlen1)
  (try rw [List.length_map])
  refine st ?_
  refine AWP.block ?_
  refine AWP.loop ?_
  refine AWL.weak (rn []) ?_ (Zgl 0 t 0 t.fKids _ hF ([]) rfl rfl hlen1)
  exact (WS.mk (tc (tc (tc (tc Zb)))) Zc)
 ·intro types_Depth' types_Depth_l1' Zpk Zgl n_3 t x_9 ZbQ r hF
  unfold ZcG.M
  intro ZcO Zgm Zgy hlen1
  refine AWL.step ?_
  refine AWP.seq ?_
  refine ns ?_
  refine AWP.seq ?_
  refine nw ?_
  refine ZK Zgm Zgy (fun x11 ZjF ZjR Zpa ZsC => ?_) (fun ZjR => ?_)
  ·subst ZjR
   refine nw ?_
   refine AWP.seq ?_
   refine AWP.block ?_
   refine AWP.seq ?_
   refine nn ?_
   refine sr (Zag (f := Za.cells) (Za.cells_eq x11) Zpa) ?_
   refine st ?_
   obtain ⟨r14, Zmp, hF⟩ := bind_some hF
   refine ns ?_
   refine e3 ?_
   refine st ?_
   refine cm (Zk.weak (rn []) (Zpk x11 _ Zmp) rfl (WS.mk (Zd (Zq (lc (lc (lc (lc Zn))))) Zb) Zc)) ?_
   refine st ?_
   refine ns ?_
   refine AWL.weak (rn []) ?_ (Zgl (if r14 > n_3 then r14 else n_3) t (x_9 + 1) ZjF _ hF (ZcO ++ [x11]) (by rw [Zgm]; simp) (by rw [Zgy]; simp) hlen1)
   exact (WS.mk (tc (tc (tc (Zd (Zp (Zc3 (ZX hlen1 ZsC))) Zb)))) Zc)
  ·subst ZjR
   refine nw ?_
   refine AWP.seq ?_
   refine ns ?_
   obtain rfl := Zh hF
   refine ns ?_
   refine Exists.intro [] ?_
   refine st ?_
   exact wx (WS.mk (tc Zb) Zc)
theorem Zk8 : ∀ (t : Za), ∀ r, ZbP t = some r → ZbP.M t r := ZoI.1

mutual
def Zca (t : Za) : Option (Int) :=
 ZcS 1 t 0 t.fKids
 partial_fixpoint
def ZcS (n_3 : Int) (t : Za) (x_9 : Nat) (ZbQ : (List Za)) : Option (Int) :=
 (match ZbQ with
 | x11 :: ZjF =>
 Zca x11 >>= fun r14 =>
 ZcS (IntKind.i64.wrap (n_3 + r14)) t (x_9 + 1) ZjF
 | [] =>
 some n_3)
 partial_fixpoint
end
def Zca.M (t : Za) (r : Int) : Prop :=
 Zk Tryz.prog 74 [.agg [.v (.int .i64 t.fOp), .v (.string t.fName), .sl (t.fBound.fArgs.map Zi.cells), .sl (t.fKids.map Za.cells)]] [] (fun d b => d = .c none (.v (.int .i64 r)) ∧ b = [])
def ZcS.M (n_3 : Int) (t : Za) (x_9 : Nat) (ZbQ : (List Za)) (r : Int) : Prop :=
 ∀ ZcO : List Za, t.fKids = ZcO ++ ZbQ → x_9 = ZcO.length → t.fKids.length ≤ maxLen → AWL Tryz.prog 19 (Code.sub (Zs Tryz.f74) [1, 1, 0, 1, 0, 0]) (Code.cont Tryz.prog 19 (Zs Tryz.f74) [1, 1, 0, 1, 0] (Zce tab Tryz.f74.results (Zch (.c none (.v (.int .i64 r))) []))) ⟨[(3, .c none (.v (.int .i64 n_3))), (7, .c none (.sl (t.fKids.map Za.cells))), (8, .c none (.v (.int .i64 ((t.fKids.length : Nat) : Int)))), (9, .c none (.v (.int .i64 ((x_9 : Nat) : Int))))], []⟩
theorem Zpg : (∀ (t : Za), ∀ r, Zca t = some r → Zca.M t r) ∧ (∀ (n_3 : Int) (t : Za) (x_9 : Nat) (ZbQ : (List Za)), ∀ r, ZcS n_3 t x_9 ZbQ = some r → ZcS.M n_3 t x_9 ZbQ r) := by
 refine Zca.mutual_partial_correctness Zca.M ZcS.M ?_ ?_
 ·intro types_Size_l1' ZgL t r hF
  unfold Zca.M
  refine en Tryz.func74 ?_
  refine AWP.seq ?_
  refine ns ?_
  refine AWP.seq ?_
  refine ns ?_
  refine AWP.seq ?_
  refine AWP.seq ?_
  refine ns ?_
  intro hlen1
  (try rw [List.length_map] at hlen1)
  (try rw [List.length_map])
  refine st ?_
  refine AWP.block ?_
  refine AWP.loop ?_
  refine AWL.weak (rn []) ?_ (ZgL 1 t 0 t.fKids _ hF ([]) rfl rfl hlen1)
  exact (WS.mk (tc (tc (tc (tc Zb)))) Zc)
 ·intro types_Size' types_Size_l1' ZqN ZgL n_3 t x_9 ZbQ r hF
  unfold ZcS.M
  intro ZcO Zgm Zgy hlen1
  refine AWL.step ?_
  refine AWP.seq ?_
  refine ns ?_
  refine AWP.seq ?_
  refine nw ?_
  refine ZK Zgm Zgy (fun x11 ZjF ZjR Zpa ZsC => ?_) (fun ZjR => ?_)
  ·subst ZjR
   refine nw ?_
   refine AWP.seq ?_
   refine AWP.block ?_
   refine AWP.seq ?_
   refine nn ?_
   refine sr (Zag (f := Za.cells) (Za.cells_eq x11) Zpa) ?_
   refine st ?_
   obtain ⟨r14, Zmp, hF⟩ := bind_some hF
   refine ns ?_
   refine e3 ?_
   refine st ?_
   refine cm (Zk.weak (rn []) (ZqN x11 _ Zmp) rfl (WS.mk (Zd (Zq (lc (lc (lc (lc Zn))))) Zb) Zc)) ?_
   refine st ?_
   refine ns ?_
   refine AWL.weak (rn []) ?_ (ZgL (IntKind.i64.wrap (n_3 + r14)) t (x_9 + 1) ZjF _ hF (ZcO ++ [x11]) (by rw [Zgm]; simp) (by rw [Zgy]; simp) hlen1)
   exact (WS.mk (tc (tc (tc (Zd (Zp (Zc3 (ZX hlen1 ZsC))) Zb)))) Zc)
  ·subst ZjR
   refine nw ?_
   refine AWP.seq ?_
   refine ns ?_
   obtain rfl := Zh hF
   refine ns ?_
   refine Exists.intro [] ?_
   refine st ?_
   exact wx (WS.mk (tc Zb) Zc)
theorem Zl9 : ∀ (t : Za), ∀ r, Zca t = some r → Zca.M t r := Zpg.1

def ZbE (z18 : ByteArray) (Ze9 : Nat) : Option (Bool) :=
 if (decide (Ze9 < z18.size)) = true then
 if ((((Utf8.decode z18 Ze9).1 : Nat) : Int) != 44) = true then
 some false
 else
 ZbE z18 (Ze9 + (Utf8.decode z18 Ze9).2)
 else
 some true
 partial_fixpoint
def ZbE.M (z18 : ByteArray) (Ze9 : Nat) (r : Bool) : Prop :=
 AWL Tryz.prog 46 (Code.sub (Zs Tryz.f102) [1, 1, 1, 1, 0, 1, 0, 0]) (Code.cont Tryz.prog 46 (Zs Tryz.f102) [1, 1, 1, 1, 0, 1, 0] (Zce tab Tryz.f102.results (Zch (.c none (.v (.bool r))) []))) ⟨[(40, .ptr 40 0)], [(40, [(none, Zq8 z18 ((Ze9 : Nat) : Int))])]⟩
theorem Zl7 (z18 : ByteArray) (Ze9 : Nat) : ∀ r, ZbE z18 Ze9 = some r → ZbE.M z18 Ze9 r := by
 refine ZbE.partial_correctness z18 (fun Ze9 r => ZbE.M z18 Ze9 r) ?_ Ze9
 intro types_builtin_l1' Zhk Ze9 r hF
 have ZlQ := fun (_z18 : ByteArray) (Ze9 : Nat) => Zhk Ze9
 clear Zhk
 unfold ZbE.M
 refine AWL.step ?_
 refine AWP.seq ?_
 refine nn ?_
 (repeat ((conv => whnf); (with_reducible refine And.intro ?_ ?_); (focus (first | (with_reducible exact Zyf) | exact Eq.refl _ | exact Nat.le_of_ble_eq_true (Eq.refl true) | decide)))); (conv => whnf)
 refine Zj hF (fun ZfX hF => ?_) (fun ZfX hF => ?_)
 ·refine st ?_
  refine AWP.seq ?_
  refine nw ?_
  refine nw ?_
  refine AWP.block ?_
  refine AWP.seq ?_
  refine ns ?_
  refine AWP.seq ?_
  refine ns ?_
  refine nw ?_
  refine Zj hF (fun ZgV hF => ?_) (fun ZgV hF => ?_)
  ·refine AWP.seq ?_
   refine ns ?_
   obtain rfl := Zh hF
   refine ns ?_
   refine Exists.intro [] ?_
   refine st ?_
   exact wx (WS.mk (tc Zb) Zc)
  ·refine nw ?_
   refine AWL.weak (rn []) ?_ (ZlQ z18 (Ze9 + (Utf8.decode z18 Ze9).2) _ hF)
   exact (WS.mk (tp Zb) (Ze rfl (cc Zg) Zc))
 ·refine st ?_
  refine AWP.seq ?_
  refine nw ?_
  refine nw ?_
  refine AWP.seq ?_
  refine ns ?_
  obtain rfl := Zh hF
  refine ns ?_
  refine Exists.intro [] ?_
  refine st ?_
  exact wx (WS.mk (tc Zb) Zc)

def ZdN (s : ByteArray) : Option (Bool) :=
 if (((s.toList == (ByteArray.mk #[45, 62]).toList) || (s.toList == (ByteArray.mk #[91, 93]).toList)) || (s.toList == (ByteArray.mk #[40, 41]).toList)) = true then
 some true
 else
 (if ((decide (((s.size : Nat) : Int) < 3)) || (decide (((s.size : Nat) : Int) > 8))) = true then some true else (btI s 0) >>= fun y10 =>
 some (((y10.toNat : Nat) : Int) != 40)) >>= fun c11 =>
 (if c11 = true then some true else (btI s (IntKind.i64.wrap (((s.size : Nat) : Int) - 1))) >>= fun y12 =>
 some (((y12.toNat : Nat) : Int) != 41)) >>= fun c13 =>
 if c13 = true then
 some false
 else
 (slS s 1 (IntKind.i64.wrap (((s.size : Nat) : Int) - 1))) >>= fun z18 =>
 ZbE z18 0
def ZdN.M (s : ByteArray) (r : Bool) : Prop :=
 Zk Tryz.prog 102 [.c none (.v (.string s))] [] (fun d b => d = .c none (.v (.bool r)) ∧ b = [])
theorem Zn7 (s : ByteArray) (r : Bool) (hF : ZdN s = some r) : ZdN.M s r := by
 unfold ZdN at hF
 unfold ZdN.M
 refine en Tryz.func102 ?_
 refine AWP.seq ?_
 refine ns ?_
 refine AWP.seq ?_
 refine AWP.seq ?_
 refine AWP.cutN (fun T => ∃ r, WS r T ⟨[(0, .c none (.v (.string s))), (15, .c none (.v (.bool (((s.toList == (ByteArray.mk #[45, 62]).toList) || (s.toList == (ByteArray.mk #[91, 93]).toList)) || (s.toList == (ByteArray.mk #[40, 41]).toList)))))], []⟩) ?_ (fun T hw => ?_)
 ·refine ns ?_
  refine Zl false (fun hc2 => ?_) (fun hc2 => ?_)
  ·(conv => whnf)
   refine st ?_
   exact wx (WS.mk (tc (Zd (Zp (web hc2)) Zb)) Zc)
  ·(conv => whnf)
   refine st ?_
   refine Zl false (fun hc3 => ?_) (fun hc3 => ?_)
   ·(conv => whnf)
    refine st ?_
    exact wx (WS.mk (tc (Zd (Zp (web (And.intro hc2 hc3))) Zb)) Zc)
   ·(conv => whnf)
    refine st ?_
    exact wx (WS.mk (tc (Zd (Zp (web (And.intro hc2 hc3))) Zb)) Zc)
 obtain ⟨r0, hw⟩ := hw
 (conv => whnf)
 refine AWP.weak r0 hw ?_
 refine nw ?_
 refine Zj hF (fun hc4 hF => ?_) (fun hc4 hF => ?_)
 ·refine AWP.seq ?_
  refine ns ?_
  obtain rfl := Zh hF
  refine ns ?_
  refine Exists.intro [] ?_
  refine st ?_
  exact wx (WS.mk (tc Zb) Zc)
 ·refine nw ?_
  refine AWP.seq ?_
  refine ns ?_
  refine AWP.seq ?_
  refine AWP.seq ?_
  obtain ⟨c11, ZbR, hF⟩ := bind_some hF
  obtain ⟨c13, Zbp, hF⟩ := bind_some hF
  refine AWP.cutN (fun T => ∃ r, WS r T ⟨[(0, .c none (.v (.string s))), (3, .c none (.v (.int .i64 ((s.size : Nat) : Int)))), (35, .c none (.v (.bool c13)))], []⟩) ?_ (fun T hw => ?_)
  ·refine ns ?_
   refine Zl false (fun Zcx => ?_) (fun Zcx => ?_)
   ·(conv => whnf)
    have ZbR := ift Zcx ZbR
    obtain rfl := Zh ZbR
    have Zbp := ift Zcx Zbp
    obtain rfl := Zh Zbp
    refine st ?_
    exact wx (WS.mk (tc (tc (Zd (Zp (web Zcx)) Zb))) Zc)
   ·(conv => whnf)
    refine st ?_
    refine Zl false (fun Zen => ?_) (fun Zen => ?_)
    ·have ZbR := ift (And.intro Zcx Zen) ZbR
     (conv => whnf)
     obtain rfl := Zh ZbR
     have Zbp := ift (And.intro Zcx Zen) Zbp
     obtain rfl := Zh Zbp
     refine st ?_
     exact wx (WS.mk (tc (tc (Zd (Zp (web (And.intro Zcx Zen))) Zb))) Zc)
    ·have ZbR := ife (And.intro Zcx Zen) ZbR
     obtain ⟨y10, ZB1, ZAX, ZbR⟩ := Zcw ZbR
     (conv => whnf)
     refine sr ZAX ?_
     obtain rfl := Zh ZbR
     refine st ?_
     refine Zl false (fun Zdu => ?_) (fun Zdu => ?_)
     ·have Zbp := ift (And.intro Zcx (And.intro Zen Zdu)) Zbp
      (conv => whnf)
      obtain rfl := Zh Zbp
      refine st ?_
      exact wx (WS.mk (tc (tc (Zd (Zp (web (And.intro Zcx (And.intro Zen Zdu)))) Zb))) Zc)
     ·have Zbp := ife (And.intro Zcx (And.intro Zen Zdu)) Zbp
      obtain ⟨y12, ZBX, ZBF, Zbp⟩ := Zcw Zbp
      (conv => whnf)
      refine sr ZBF ?_
      obtain rfl := Zh Zbp
      refine st ?_
      exact wx (WS.mk (tc (tc (Zd (Zp (web (And.intro Zcx (And.intro Zen Zdu)))) Zb))) Zc)
  obtain ⟨r0, hw⟩ := hw
  (conv => whnf)
  refine AWP.weak r0 hw ?_
  refine nw ?_
  refine Zj hF (fun Zdd hF => ?_) (fun Zdd hF => ?_)
  ·refine AWP.seq ?_
   refine ns ?_
   obtain rfl := Zh hF
   refine ns ?_
   refine Exists.intro [] ?_
   refine st ?_
   exact wx (WS.mk (tc Zb) Zc)
  ·refine nw ?_
   refine AWP.seq ?_
   refine AWP.seq ?_
   obtain ⟨z18, ZCk, ZCI, ZC9, ZFo, hF⟩ := Ze6 hF
   refine nn ?_
   refine s3 ZCk ZCI ZC9 ?_
   rw [← ZFo]
   (repeat ((conv => whnf); (with_reducible refine And.intro ?_ ?_); (focus (first | (with_reducible exact Zyf) | exact Eq.refl _ | exact Nat.le_of_ble_eq_true (Eq.refl true) | decide)))); (conv => whnf)
   refine st ?_
   refine AWP.block ?_
   refine AWP.loop ?_
   refine AWL.weak (rn []) ?_ (Zl7 z18 0 _ hF)
   exact (WS.mk (tp Zb) (Ze rfl (cc Zg) Zc))

def Zct (s_0 : ByteArray) : Option (Bool) :=
 ZcD s_0 >>= fun r5 =>
 some ((r5 == 2) || (r5 == 4))
def Zct.M (s_0 : ByteArray) (r : Bool) : Prop :=
 AWP Tryz.prog 34 (Code.sub (Zs Tryz.f103) [1, 1, 1]) (Code.cont Tryz.prog 34 (Zs Tryz.f103) [1, 1, 1] (Zce tab Tryz.f103.results (Zch (.c none (.v (.bool r))) []))) ⟨[(0, .c none (.v (.string s_0)))], []⟩
theorem Zhz (s_0 : ByteArray) (r : Bool) (hF : Zct s_0 = some r) : Zct.M s_0 r := by
 unfold Zct at hF
 unfold Zct.M
 refine AWP.seq ?_
 obtain ⟨r5, hr5, hF⟩ := bind_some hF
 refine ns ?_
 refine e3 ?_
 refine st ?_
 refine cm (Zk.weak (rn []) (Zgt s_0 _ hr5) rfl (WS.mk (tc Zb) Zc)) ?_
 refine st ?_
 refine AWP.seq ?_
 refine AWP.cutN (fun T => ∃ r, WS r T ⟨[(2, .c none (.v (.bool ((r5 == 2) || (r5 == 4)))))], []⟩) ?_ (fun T hw => ?_)
 ·refine ns ?_
  refine Zl false (fun hc6 => ?_) (fun hc6 => ?_)
  ·(conv => whnf)
   refine st ?_
   exact wx (WS.mk (Zd (Zp (web hc6)) Zb) Zc)
  ·(conv => whnf)
   refine st ?_
   exact wx (WS.mk (Zd (Zp (web hc6)) Zb) Zc)
 obtain ⟨r0, hw⟩ := hw
 (conv => whnf)
 refine AWP.weak r0 hw ?_
 obtain rfl := Zh hF
 refine ns ?_
 refine Exists.intro [] ?_
 refine st ?_
 exact wx (WS.mk (tc Zb) Zc)

def Zcq (s_0 : ByteArray) : Option (Bool) :=
 Zeg s_0 >>= fun r7 =>
 if r7.2.2 = true then
 Zct r7.2.1
 else
 Zct s_0
def Zcq.M (s_0 : ByteArray) (r : Bool) : Prop :=
 AWP Tryz.prog 34 (Code.sub (Zs Tryz.f103) [1, 1]) (Code.cont Tryz.prog 34 (Zs Tryz.f103) [1, 1] (Zce tab Tryz.f103.results (Zch (.c none (.v (.bool r))) []))) ⟨[(0, .c none (.v (.string s_0)))], []⟩
theorem Zhv (s_0 : ByteArray) (r : Bool) (hF : Zcq s_0 = some r) : Zcq.M s_0 r := by
 unfold Zcq at hF
 unfold Zcq.M
 refine AWP.seq ?_
 refine AWP.seq ?_
 obtain ⟨r7, hr7, hF⟩ := bind_some hF
 refine ns ?_
 refine e3 ?_
 refine st ?_
 refine cm (Zk.weak (rn []) (Zk5 s_0 _ hr7) rfl (WS.mk (tc Zb) Zc)) ?_
 refine st ?_
 refine AWP.seq ?_
 refine ns ?_
 refine nw ?_
 refine Zj hF (fun hc8 hF => ?_) (fun hc8 hF => ?_)
 ·refine ns ?_
  refine AWP.weak (rn []) ?_ (Zhz r7.2.1 _ hF)
  exact (WS.mk (tc Zb) Zc)
 ·refine nw ?_
  refine AWP.weak (rn []) ?_ (Zhz s_0 _ hF)
  exact (WS.mk (tc Zb) Zc)

def ZdM (s : ByteArray) : Option (Bool) :=
 Zek s >>= fun r9 =>
 if r9.2.2 = true then
 Zcq r9.1
 else
 Zcq s
def ZdM.M (s : ByteArray) (r : Bool) : Prop :=
 Zk Tryz.prog 103 [.c none (.v (.string s))] [] (fun d b => d = .c none (.v (.bool r)) ∧ b = [])
theorem ZnW (s : ByteArray) (r : Bool) (hF : ZdM s = some r) : ZdM.M s r := by
 unfold ZdM at hF
 unfold ZdM.M
 refine en Tryz.func103 ?_
 refine AWP.seq ?_
 refine ns ?_
 refine AWP.seq ?_
 refine AWP.seq ?_
 obtain ⟨r9, hr9, hF⟩ := bind_some hF
 refine ns ?_
 refine e3 ?_
 refine st ?_
 refine cm (Zk.weak (rn []) (ZiV s _ hr9) rfl (WS.mk (tc Zb) Zc)) ?_
 refine st ?_
 refine AWP.seq ?_
 refine ns ?_
 refine nw ?_
 refine Zj hF (fun Zd5 hF => ?_) (fun Zd5 hF => ?_)
 ·refine ns ?_
  refine AWP.weak (rn []) ?_ (Zhv r9.1 _ hF)
  exact (WS.mk (tc Zb) Zc)
 ·refine nw ?_
  refine AWP.weak (rn []) ?_ (Zhv s _ hF)
  exact (WS.mk (tc Zb) Zc)

def ZaG (s : ByteArray) : Option (Bool) :=
 Zek s >>= fun r4 =>
 if r4.2.2 = true then
 ZcD r4.1 >>= fun r6 =>
 some (r6 == 1)
 else
 ZcD s >>= fun r7 =>
 some ((r7 == 1) && (!(s.toList == (ByteArray.mk #[102, 111, 114, 97, 108, 108]).toList)))
def ZaG.M (s : ByteArray) (r : Bool) : Prop :=
 Zk Tryz.prog 68 [.c none (.v (.string s))] [] (fun d b => d = .c none (.v (.bool r)) ∧ b = [])
theorem ZeT (s : ByteArray) (r : Bool) (hF : ZaG s = some r) : ZaG.M s r := by
 unfold ZaG at hF
 unfold ZaG.M
 refine en Tryz.func68 ?_
 refine AWP.seq ?_
 refine ns ?_
 refine AWP.seq ?_
 refine AWP.seq ?_
 obtain ⟨r4, hr4, hF⟩ := bind_some hF
 refine ns ?_
 refine e3 ?_
 refine st ?_
 refine cm (Zk.weak (rn []) (ZiV s _ hr4) rfl (WS.mk (tc Zb) Zc)) ?_
 refine st ?_
 refine AWP.seq ?_
 refine ns ?_
 refine nw ?_
 refine Zj hF (fun hc5 hF => ?_) (fun hc5 hF => ?_)
 ·refine AWP.seq ?_
  obtain ⟨r6, hr6, hF⟩ := bind_some hF
  refine ns ?_
  refine e3 ?_
  refine st ?_
  refine cm (Zk.weak (rn []) (Zgt r4.1 _ hr6) rfl (WS.mk (tc Zb) Zc)) ?_
  refine st ?_
  obtain rfl := Zh hF
  refine ns ?_
  refine Exists.intro [] ?_
  refine st ?_
  exact wx (WS.mk (tc Zb) Zc)
 ·refine nw ?_
  refine AWP.seq ?_
  obtain ⟨r7, hr7, hF⟩ := bind_some hF
  refine AWP.cutN (fun T => ∃ r, WS r T ⟨[(2, .c none (.v (.bool ((r7 == 1) && (!(s.toList == (ByteArray.mk #[102, 111, 114, 97, 108, 108]).toList))))))], []⟩) ?_ (fun T hw => ?_)
  ·refine ns ?_
   refine e3 ?_
   refine st ?_
   refine cm (Zk.weak (rn []) (Zgt s _ hr7) rfl (WS.mk (tc Zb) Zc)) ?_
   refine st ?_
   refine Zl true (fun hc8 => ?_) (fun hc8 => ?_)
   ·(conv => whnf)
    refine st ?_
    exact wx (WS.mk (Zd (Zp (web hc8)) Zb) Zc)
   ·(conv => whnf)
    refine st ?_
    exact wx (WS.mk (Zd (Zp (web hc8)) Zb) Zc)
  obtain ⟨r0, hw⟩ := hw
  (conv => whnf)
  refine AWP.weak r0 hw ?_
  obtain rfl := Zh hF
  refine ns ?_
  refine Exists.intro [] ?_
  refine st ?_
  exact wx (WS.mk (tc Zb) Zc)

def Zc6 (t : Za) (Zl5 : Bool) : Option (Bool) :=
 if Zl5 = true then
 ZaG t.fName >>= fun r21 =>
 some r21
 else
 if (t.fOp == 2) = true then
 ZdN t.fName >>= fun r23 =>
 (if r23 = true then some true else ZdM t.fName >>= fun r24 =>
 some r24) >>= fun c25 =>
 some c25
 else
 some (t.fOp == 3)
def Zc6.M (t : Za) (Zl5 : Bool) (r : Bool) : Prop :=
 AWP Tryz.prog 60 (Code.sub (Zs Tryz.f73) [1, 1, 1, 1, 0, 1, 0, 1]) (Code.cont Tryz.prog 60 (Zs Tryz.f73) [1, 1, 1, 1, 0, 1, 0, 1] (Zce tab Tryz.f73.results (Zch (.c none (.v (.bool r))) []))) ⟨[(1, .ptr 1 0), (40, .c none (.v (.int .i64 t.fOp))), (41, .c none (.v (.bool Zl5)))], [(1, [(none, .v (.int .i64 t.fOp)), (none, .v (.string t.fName)), (none, .sl (t.fBound.fArgs.map Zi.cells)), (none, .sl (t.fKids.map Za.cells))])]⟩
theorem Zim (t : Za) (Zl5 : Bool) (r : Bool) (hF : Zc6 t Zl5 = some r) : Zc6.M t Zl5 r := by
 unfold Zc6 at hF
 unfold Zc6.M
 refine nw ?_
 refine Zj hF (fun Zge hF => ?_) (fun Zge hF => ?_)
 ·refine AWP.seq ?_
  obtain ⟨r21, ZAY, hF⟩ := bind_some hF
  refine ns ?_
  refine e3 ?_
  refine st ?_
  refine cm (Zk.weak (rn []) (ZeT t.fName _ ZAY) rfl (WS.mk (tc Zb) Zc)) ?_
  refine st ?_
  obtain rfl := Zh hF
  refine ns ?_
  refine Exists.intro [] ?_
  refine st ?_
  exact wx (WS.mk (tc Zb) Zc)
 ·refine AWP.seq ?_
  refine ns ?_
  refine nw ?_
  refine Zj hF (fun ZgV hF => ?_) (fun ZgV hF => ?_)
  ·refine AWP.seq ?_
   obtain ⟨r23, ZyT, hF⟩ := bind_some hF
   obtain ⟨c25, Zid, hF⟩ := bind_some hF
   refine AWP.cutN (fun T => ∃ r, WS r T ⟨[(2, .c none (.v (.bool c25)))], []⟩) ?_ (fun T hw => ?_)
   ·refine ns ?_
    refine e3 ?_
    refine st ?_
    refine cm (Zk.weak (rn []) (Zn7 t.fName _ ZyT) rfl (WS.mk (tc Zb) Zc)) ?_
    refine st ?_
    refine Zl false (fun Zi2 => ?_) (fun Zi2 => ?_)
    ·have Zid := ift Zi2 Zid
     (conv => whnf)
     obtain rfl := Zh Zid
     refine st ?_
     exact wx (WS.mk (Zd (Zp (web Zi2)) Zb) Zc)
    ·have Zid := ife Zi2 Zid
     obtain ⟨r24, ZBN, Zid⟩ := bind_some Zid
     (conv => whnf)
     refine st ?_
     refine e3 ?_
     refine st ?_
     refine cm (Zk.weak (rn []) (ZnW t.fName _ ZBN) rfl (WS.mk (tc Zb) Zc)) ?_
     refine st ?_
     obtain rfl := Zh Zid
     refine st ?_
     exact wx (WS.mk (Zd (Zp (web Zi2)) Zb) Zc)
   obtain ⟨r0, hw⟩ := hw
   (conv => whnf)
   refine AWP.weak r0 hw ?_
   obtain rfl := Zh hF
   refine ns ?_
   refine Exists.intro [] ?_
   refine st ?_
   exact wx (WS.mk (tc Zb) Zc)
  ·refine nw ?_
   refine AWP.seq ?_
   refine ns ?_
   obtain rfl := Zh hF
   refine ns ?_
   refine Exists.intro [] ?_
   refine st ?_
   exact wx (WS.mk (tc Zb) Zc)

mutual
def Zby (t : Za) : Option (Bool) :=
 if (((t.fOp != 4) && (decide (((t.fBound.fArgs.length : Nat) : Int) > 0))) || ((t.fOp == 3) && (!(t.fName.toList == (ByteArray.mk #[]).toList)))) = true then
 some false
 else
 Zdf (Zfm (Zfm ([] : List (Int × Int)) 3 2) 4 1) 0 t.fOp >>= fun r9 =>
 (if (((t.fKids.length : Nat) : Int) != r9.1) = true then some true else ZM t.fKids >>= fun r15 =>
 some r15) >>= fun c16 =>
 if c16 = true then
 some false
 else
 if (t.fOp == 1) = true then
 Zc6 t (t.fOp == 1)
 else
 Zc6 t (t.fOp == 4)
 partial_fixpoint
def ZM (s : (List Za)) : Option (Bool) :=
 Z7 s >>= fun r1 =>
 some (decide (r1 ≥ 0))
 partial_fixpoint
def Z7 (s : (List Za)) : Option (Int) :=
 ZB s 0 s
 partial_fixpoint
def ZB (s : (List Za)) (x_8 : Nat) (Zay : (List Za)) : Option (Int) :=
 (match Zay with
 | x13 :: ZtT =>
 Zdm x13 >>= fun r16 =>
 if r16 = true then
 some ((x_8 : Nat) : Int)
 else
 ZB s (x_8 + 1) ZtT
 | [] =>
 some (-1))
 partial_fixpoint
def Zdm (k : Za) : Option (Bool) :=
 Zby k >>= fun r1 =>
 some (!r1)
 partial_fixpoint
end
def Zby.M (t : Za) (r : Bool) : Prop :=
 Zk Tryz.prog 73 [.agg [.v (.int .i64 t.fOp), .v (.string t.fName), .sl (t.fBound.fArgs.map Zi.cells), .sl (t.fKids.map Za.cells)]] [] (fun d b => d = .c none (.v (.bool r)) ∧ b = [])
def ZM.M (s : (List Za)) (r : Bool) : Prop :=
 Zk Tryz.prog 79 [.c none (.sl (s.map Za.cells)), .c none (.v (.func (.func 101) #[] #[]))] [] (fun d b => d = .c none (.v (.bool r)) ∧ b = [])
def Z7.M (s : (List Za)) (r : Int) : Prop :=
 Zk Tryz.prog 104 [.c none (.sl (s.map Za.cells)), .c none (.v (.func (.func 101) #[] #[]))] [] (fun d b => d = .c none (.v (.int .i64 r)) ∧ b = [])
def ZB.M (s : (List Za)) (x_8 : Nat) (Zay : (List Za)) (r : Int) : Prop :=
 ∀ ZcP : List Za, s = ZcP ++ Zay → x_8 = ZcP.length → s.length ≤ maxLen → AWL Tryz.prog 19 (Code.sub (Zs Tryz.f104) [1, 0, 1, 0, 0]) (Code.cont Tryz.prog 19 (Zs Tryz.f104) [1, 0, 1, 0] (Zce tab Tryz.f104.results (Zch (.c none (.v (.int .i64 r))) []))) ⟨[(0, .c none (.sl (s.map Za.cells))), (1, .c none (.v (.func (.func 101) #[] #[]))), (7, .c none (.v (.int .i64 ((s.length : Nat) : Int)))), (8, .c none (.v (.int .i64 ((x_8 : Nat) : Int))))], []⟩
def Zdm.M (k : Za) (r : Bool) : Prop :=
 Zk Tryz.prog 101 [.agg [.v (.int .i64 k.fOp), .v (.string k.fName), .sl (k.fBound.fArgs.map Zi.cells), .sl (k.fKids.map Za.cells)]] [] (fun d b => d = .c none (.v (.bool r)) ∧ b = [])
theorem ZnI : (∀ (t : Za), ∀ r, Zby t = some r → Zby.M t r) ∧ (∀ (s : (List Za)), ∀ r, ZM s = some r → ZM.M s r) ∧ (∀ (s : (List Za)), ∀ r, Z7 s = some r → Z7.M s r) ∧ (∀ (s : (List Za)) (x_8 : Nat) (Zay : (List Za)), ∀ r, ZB s x_8 Zay = some r → ZB.M s x_8 Zay r) ∧ (∀ (k : Za), ∀ r, Zdm k = some r → Zdm.M k r) := by
 refine Zby.mutual_partial_correctness Zby.M ZM.M Z7.M ZB.M Zdm.M ?_ ?_ ?_ ?_ ?_
 ·intro slices_ContainsFunc_Type_types_formed_1' ZeE t r hF
  unfold Zby.M
  refine en Tryz.func73 ?_
  refine AWP.seq ?_
  refine ns ?_
  refine AWP.seq ?_
  refine AWP.seq ?_
  refine AWP.cutN (fun T => ∃ r, WS r T ⟨[(1, .ptr 1 0), (23, .c none (.v (.bool (((t.fOp != 4) && (decide (((t.fBound.fArgs.length : Nat) : Int) > 0))) || ((t.fOp == 3) && (!(t.fName.toList == (ByteArray.mk #[]).toList)))))))], [(1, [(none, .v (.int .i64 t.fOp)), (none, .v (.string t.fName)), (none, .sl (t.fBound.fArgs.map Zi.cells)), (none, .sl (t.fKids.map Za.cells))])]⟩) ?_ (fun T hw => ?_)
  ·refine ns ?_
   refine Zl true (fun hc4 => ?_) (fun hc4 => ?_)
   ·(conv => whnf)
    refine st ?_
    intro hlen3
    (try rw [List.length_map] at hlen3)
    (try rw [List.length_map])
    refine st ?_
    refine Zl false (fun hc5 => ?_) (fun hc5 => ?_)
    ·(conv => whnf)
     refine st ?_
     exact wx (WS.mk (tp (Zd (Zp (web (And.intro hc4 hc5))) Zb)) (Ze rfl (cc (cc (cc (cc Zg)))) Zc))
    ·(conv => whnf)
     refine st ?_
     refine Zl true (fun hc6 => ?_) (fun hc6 => ?_)
     ·(conv => whnf)
      refine st ?_
      exact wx (WS.mk (tp (Zd (Zp (web (And.intro hc4 (And.intro hc5 hc6)))) Zb)) (Ze rfl (cc (cc (cc (cc Zg)))) Zc))
     ·(conv => whnf)
      refine st ?_
      exact wx (WS.mk (tp (Zd (Zp (web (And.intro hc4 (And.intro hc5 hc6)))) Zb)) (Ze rfl (cc (cc (cc (cc Zg)))) Zc))
   ·(conv => whnf)
    refine st ?_
    refine Zl true (fun hc7 => ?_) (fun hc7 => ?_)
    ·(conv => whnf)
     refine st ?_
     exact wx (WS.mk (tp (Zd (Zp (web (And.intro hc4 hc7))) Zb)) (Ze rfl (cc (cc (cc (cc Zg)))) Zc))
    ·(conv => whnf)
     refine st ?_
     exact wx (WS.mk (tp (Zd (Zp (web (And.intro hc4 hc7))) Zb)) (Ze rfl (cc (cc (cc (cc Zg)))) Zc))
  obtain ⟨r0, hw⟩ := hw
  (conv => whnf)
  refine AWP.weak r0 hw ?_
  refine nw ?_
  refine Zj hF (fun hc8 hF => ?_) (fun hc8 hF => ?_)
  ·refine AWP.seq ?_
   refine ns ?_
   obtain rfl := Zh hF
   refine ns ?_
   refine Exists.intro [] ?_
   refine st ?_
   exact wx (WS.mk (tc Zb) Zc)
  ·refine nw ?_
   refine AWP.seq ?_
   obtain ⟨r9, hr9, hF⟩ := bind_some hF
   refine ns ?_
   refine ZiK (m := ([] : List (Int × Int))) (k := 3) (v := 2) ZkP (ev := Zba) (lc Zn) ?_
   refine st ?_
   refine ZiK (m := (Zfm ([] : List (Int × Int)) 3 2)) (k := 4) (v := 1) ZkP (ev := Zba) (lc Zn) ?_
   refine st ?_
   refine ZeP (m := (Zfm (Zfm ([] : List (Int × Int)) 3 2) 4 1)) (k := t.fOp) ZkP (ev := Zba) hr9 rfl (fun x => ZiH x) rfl rfl (lc Zn) ?_
   refine st ?_
   refine AWP.seq ?_
   refine AWP.seq ?_
   obtain ⟨c16, Zdu, hF⟩ := bind_some hF
   refine AWP.cutN (fun T => ∃ r, WS r T ⟨[(1, .ptr 1 0), (38, .c none (.v (.bool c16)))], [(1, [(none, .v (.int .i64 t.fOp)), (none, .v (.string t.fName)), (none, .sl (t.fBound.fArgs.map Zi.cells)), (none, .sl (t.fKids.map Za.cells))])]⟩) ?_ (fun T hw => ?_)
   ·refine ns ?_
    intro hlen14
    (try rw [List.length_map] at hlen14)
    (try rw [List.length_map])
    refine st ?_
    refine Zl false (fun Zdd => ?_) (fun Zdd => ?_)
    ·have Zdu := ift Zdd Zdu
     (conv => whnf)
     obtain rfl := Zh Zdu
     refine st ?_
     exact wx (WS.mk (tp (Zd (Zp (web Zdd)) Zb)) (Ze rfl (cc (cc (cc (cc Zg)))) Zc))
    ·have Zdu := ife Zdd Zdu
     obtain ⟨r15, ZtZ, Zdu⟩ := bind_some Zdu
     (conv => whnf)
     refine st ?_
     refine e3 ?_
     refine st ?_
     refine cm (Zk.weak (rn []) (ZeE t.fKids _ ZtZ) rfl (WS.mk (tc (tc Zb)) Zc)) ?_
     refine st ?_
     obtain rfl := Zh Zdu
     refine st ?_
     exact wx (WS.mk (tp (Zd (Zp (web Zdd)) Zb)) (Ze rfl (cc (cc (cc (cc Zg)))) Zc))
   obtain ⟨r0, hw⟩ := hw
   (conv => whnf)
   refine AWP.weak r0 hw ?_
   refine nw ?_
   refine Zj hF (fun ZiX hF => ?_) (fun ZiX hF => ?_)
   ·refine AWP.seq ?_
    refine ns ?_
    obtain rfl := Zh hF
    refine ns ?_
    refine Exists.intro [] ?_
    refine st ?_
    exact wx (WS.mk (tc Zb) Zc)
   ·refine nw ?_
    refine AWP.seq ?_
    refine AWP.seq ?_
    refine ns ?_
    refine AWP.block ?_
    refine AWP.seq ?_
    refine AWP.seq ?_
    refine ns ?_
    refine nw ?_
    refine Zj hF (fun ZrS hF => ?_) (fun ZrS hF => ?_)
    ·refine nw ?_
     refine AWP.weak (rn []) ?_ (Zim t (t.fOp == 1) _ hF)
     exact (WS.mk (tp (tc (tc Zb))) (Ze rfl (cc (cc (cc (cc Zg)))) Zc))
    ·refine ns ?_
     refine AWP.weak (rn []) ?_ (Zim t (t.fOp == 4) _ hF)
     exact (WS.mk (tp (tc (tc Zb))) (Ze rfl (cc (cc (cc (cc Zg)))) Zc))
 ·intro slices_IndexFunc_Type_types_formed_1' ZeZ s r hF
  unfold ZM.M
  refine en Tryz.func79 ?_
  refine AWP.seq ?_
  refine ns ?_
  refine AWP.seq ?_
  obtain ⟨r1, hr1, hF⟩ := bind_some hF
  refine ns ?_
  refine e3 ?_
  refine st ?_
  refine cm (Zk.weak (rn []) (ZeZ s _ hr1) rfl (WS.mk (tc (tc Zb)) Zc)) ?_
  refine st ?_
  obtain rfl := Zh hF
  refine ns ?_
  refine Exists.intro [] ?_
  refine st ?_
  exact wx (WS.mk (tc Zb) Zc)
 ·intro slices_IndexFunc_Type_types_formed_1_l1' ZbX s r hF
  unfold Z7.M
  refine en Tryz.func104 ?_
  refine AWP.seq ?_
  refine ns ?_
  refine AWP.seq ?_
  refine AWP.seq ?_
  refine ns ?_
  intro hlen1
  (try rw [List.length_map] at hlen1)
  (try rw [List.length_map])
  refine st ?_
  refine AWP.block ?_
  refine AWP.loop ?_
  refine AWL.weak (rn []) ?_ (ZbX s 0 s _ hF ([]) rfl rfl hlen1)
  exact (WS.mk (tc (tc (tc (tc Zb)))) Zc)
 ·intro slices_IndexFunc_Type_types_formed_1_l1' types_formed_1' ZbX ZmT s x_8 Zay r hF
  unfold ZB.M
  intro ZcP Zgx Zgk hlen1
  refine AWL.step ?_
  refine AWP.seq ?_
  refine ns ?_
  refine AWP.seq ?_
  refine nw ?_
  refine ZK Zgx Zgk (fun x13 ZtT Zui Zyt ZBR => ?_) (fun Zui => ?_)
  ·subst Zui
   refine nw ?_
   refine AWP.seq ?_
   refine AWP.block ?_
   refine AWP.seq ?_
   refine ns ?_
   refine AWP.seq ?_
   obtain ⟨r16, ZyL, hF⟩ := bind_some hF
   refine nn ?_
   refine sr (Zag (f := Za.cells) (Za.cells_eq x13) Zyt) ?_
   refine st ?_
   refine e3 ?_
   refine st ?_
   refine cm (Zk.weak (rn []) (ZmT x13 _ ZyL) rfl (WS.mk (Zd (Zq (lc (lc (lc (lc Zn))))) Zb) Zc)) ?_
   refine st ?_
   refine nw ?_
   refine Zj hF (fun Zdd hF => ?_) (fun Zdd hF => ?_)
   ·refine AWP.seq ?_
    refine ns ?_
    obtain rfl := Zh hF
    refine ns ?_
    refine Exists.intro [] ?_
    refine st ?_
    exact wx (WS.mk (tc Zb) Zc)
   ·refine nw ?_
    refine ns ?_
    refine AWL.weak (rn []) ?_ (ZbX s (x_8 + 1) ZtT _ hF (ZcP ++ [x13]) (by rw [Zgx]; simp) (by rw [Zgk]; simp) hlen1)
    exact (WS.mk (tc (tc (tc (Zd (Zp (Zc3 (ZX hlen1 ZBR))) Zb)))) Zc)
  ·subst Zui
   refine nw ?_
   refine AWP.seq ?_
   refine ns ?_
   obtain rfl := Zh hF
   refine ns ?_
   refine Exists.intro [] ?_
   refine st ?_
   exact wx (WS.mk (tc Zb) Zc)
 ·intro types_formed' ZoH k r hF
  unfold Zdm.M
  refine en Tryz.func101 ?_
  refine AWP.seq ?_
  refine ns ?_
  refine AWP.seq ?_
  obtain ⟨r1, hr1, hF⟩ := bind_some hF
  refine ns ?_
  refine e3 ?_
  refine st ?_
  refine cm (Zk.weak (rn []) (ZoH k _ hr1) rfl (WS.mk (Zd (Zq (lc (lc (lc (lc Zn))))) Zb) Zc)) ?_
  refine st ?_
  obtain rfl := Zh hF
  refine ns ?_
  refine Exists.intro [] ?_
  refine st ?_
  exact wx (WS.mk (tc Zb) Zc)
theorem ZoG : ∀ (t : Za), ∀ r, Zby t = some r → Zby.M t r := ZnI.1

mutual
def Za3 (k : Zi) : Option (Int) :=
 Zbu 0 k 0 k.fArgs
 partial_fixpoint
def Zbu (n_3 : Int) (k : Zi) (x_9 : Nat) (ZbQ : (List Zi)) : Option (Int) :=
 (match ZbQ with
 | x11 :: ZjF =>
 Za3 x11 >>= fun r14 =>
 Zbu (if r14 > n_3 then r14 else n_3) k (x_9 + 1) ZjF
 | [] =>
 some (IntKind.i64.wrap (n_3 + 1)))
 partial_fixpoint
end
def Za3.M (k : Zi) (r : Int) : Prop :=
 Zk Tryz.prog 78 [.agg [.sl (k.fArgs.map Zi.cells)]] [] (fun d b => d = .c none (.v (.int .i64 r)) ∧ b = [])
def Zbu.M (n_3 : Int) (k : Zi) (x_9 : Nat) (ZbQ : (List Zi)) (r : Int) : Prop :=
 ∀ ZcO : List Zi, k.fArgs = ZcO ++ ZbQ → x_9 = ZcO.length → k.fArgs.length ≤ maxLen → AWL Tryz.prog 20 (Code.sub (Zs Tryz.f78) [1, 1, 0, 1, 0, 0]) (Code.cont Tryz.prog 20 (Zs Tryz.f78) [1, 1, 0, 1, 0] (Zce tab Tryz.f78.results (Zch (.c none (.v (.int .i64 r))) []))) ⟨[(3, .c none (.v (.int .i64 n_3))), (7, .c none (.sl (k.fArgs.map Zi.cells))), (8, .c none (.v (.int .i64 ((k.fArgs.length : Nat) : Int)))), (9, .c none (.v (.int .i64 ((x_9 : Nat) : Int))))], []⟩
theorem ZlT : (∀ (k : Zi), ∀ r, Za3 k = some r → Za3.M k r) ∧ (∀ (n_3 : Int) (k : Zi) (x_9 : Nat) (ZbQ : (List Zi)), ∀ r, Zbu n_3 k x_9 ZbQ = some r → Zbu.M n_3 k x_9 ZbQ r) := by
 refine Za3.mutual_partial_correctness Za3.M Zbu.M ?_ ?_
 ·intro types_kindDepth_l1' ZeS k r hF
  unfold Za3.M
  refine en Tryz.func78 ?_
  refine AWP.seq ?_
  refine ns ?_
  refine AWP.seq ?_
  refine ns ?_
  refine AWP.seq ?_
  refine AWP.seq ?_
  refine ns ?_
  intro hlen1
  (try rw [List.length_map] at hlen1)
  (try rw [List.length_map])
  refine st ?_
  refine AWP.block ?_
  refine AWP.loop ?_
  refine AWL.weak (rn []) ?_ (ZeS 0 k 0 k.fArgs _ hF ([]) rfl rfl hlen1)
  exact (WS.mk (tc (tc (tc (tc Zb)))) Zc)
 ·intro types_kindDepth' types_kindDepth_l1' ZmO ZeS n_3 k x_9 ZbQ r hF
  unfold Zbu.M
  intro ZcO Zgm Zgy hlen1
  refine AWL.step ?_
  refine AWP.seq ?_
  refine ns ?_
  refine AWP.seq ?_
  refine nw ?_
  refine ZK Zgm Zgy (fun x11 ZjF ZjR Zpa ZsC => ?_) (fun ZjR => ?_)
  ·subst ZjR
   refine nw ?_
   refine AWP.seq ?_
   refine AWP.block ?_
   refine AWP.seq ?_
   refine nn ?_
   refine sr (Zag (f := Zi.cells) (Zi.cells_eq x11) Zpa) ?_
   refine st ?_
   obtain ⟨r14, Zmp, hF⟩ := bind_some hF
   refine ns ?_
   refine e3 ?_
   refine st ?_
   refine cm (Zk.weak (rn []) (ZmO x11 _ Zmp) rfl (WS.mk (Zd (Zq (lc Zn)) Zb) Zc)) ?_
   refine st ?_
   refine ns ?_
   refine AWL.weak (rn []) ?_ (ZeS (if r14 > n_3 then r14 else n_3) k (x_9 + 1) ZjF _ hF (ZcO ++ [x11]) (by rw [Zgm]; simp) (by rw [Zgy]; simp) hlen1)
   exact (WS.mk (tc (tc (tc (Zd (Zp (Zc3 (ZX hlen1 ZsC))) Zb)))) Zc)
  ·subst ZjR
   refine nw ?_
   refine AWP.seq ?_
   refine ns ?_
   obtain rfl := Zh hF
   refine ns ?_
   refine Exists.intro [] ?_
   refine st ?_
   exact wx (WS.mk (tc Zb) Zc)
theorem Zmt : ∀ (k : Zi), ∀ r, Za3 k = some r → Za3.M k r := ZlT.1

mutual
def Zz (t : Za) : Option (Int) :=
 Za3 t.fBound >>= fun r1 =>
 ZL r1 t 0 t.fKids
 partial_fixpoint
def ZL (n_5 : Int) (t : Za) (Zgn : Nat) (ZcU : (List Za)) : Option (Int) :=
 (match ZcU with
 | x12 :: ZtX =>
 Zz x12 >>= fun r15 =>
 ZL (if r15 > n_5 then r15 else n_5) t (Zgn + 1) ZtX
 | [] =>
 some n_5)
 partial_fixpoint
end
def Zz.M (t : Za) (r : Int) : Prop :=
 Zk Tryz.prog 75 [.agg [.v (.int .i64 t.fOp), .v (.string t.fName), .sl (t.fBound.fArgs.map Zi.cells), .sl (t.fKids.map Za.cells)], .c none (.v (.func (.func 78) #[] #[]))] [] (fun d b => d = .c none (.v (.int .i64 r)) ∧ b = [])
def ZL.M (n_5 : Int) (t : Za) (Zgn : Nat) (ZcU : (List Za)) (r : Int) : Prop :=
 ∀ Zea : List Za, t.fKids = Zea ++ ZcU → Zgn = Zea.length → t.fKids.length ≤ maxLen → AWL Tryz.prog 26 (Code.sub (Zs Tryz.f75) [1, 1, 0, 1, 0, 0]) (Code.cont Tryz.prog 26 (Zs Tryz.f75) [1, 1, 0, 1, 0] (Zce tab Tryz.f75.results (Zch (.c none (.v (.int .i64 r))) []))) ⟨[(1, .c none (.v (.func (.func 78) #[] #[]))), (5, .c none (.v (.int .i64 n_5))), (13, .c none (.sl (t.fKids.map Za.cells))), (14, .c none (.v (.int .i64 ((t.fKids.length : Nat) : Int)))), (15, .c none (.v (.int .i64 ((Zgn : Nat) : Int))))], []⟩
theorem ZfZ : (∀ (t : Za), ∀ r, Zz t = some r → Zz.M t r) ∧ (∀ (n_5 : Int) (t : Za) (Zgn : Nat) (ZcU : (List Za)), ∀ r, ZL n_5 t Zgn ZcU = some r → ZL.M n_5 t Zgn ZcU r) := by
 refine Zz.mutual_partial_correctness Zz.M ZL.M ?_ ?_
 ·intro types_greatest_types_kindDepth_l1' Zcy t r hF
  unfold Zz.M
  refine en Tryz.func75 ?_
  refine AWP.seq ?_
  refine ns ?_
  refine AWP.seq ?_
  obtain ⟨r1, hr1, hF⟩ := bind_some hF
  refine ns ?_
  refine e3 ?_
  refine st ?_
  refine cm (Zk.weak (rn []) (Zmt t.fBound _ hr1) rfl (WS.mk (Zd (Zq (lc Zn)) Zb) Zc)) ?_
  refine st ?_
  refine AWP.seq ?_
  refine AWP.seq ?_
  refine ns ?_
  intro hlen2
  (try rw [List.length_map] at hlen2)
  (try rw [List.length_map])
  refine st ?_
  refine AWP.block ?_
  refine AWP.loop ?_
  refine AWL.weak (rn []) ?_ (Zcy r1 t 0 t.fKids _ hF ([]) rfl rfl hlen2)
  exact (WS.mk (tc (tc (tc (tc (tc Zb))))) Zc)
 ·intro types_greatest_types_kindDepth' types_greatest_types_kindDepth_l1' Zgc Zcy n_5 t Zgn ZcU r hF
  unfold ZL.M
  intro Zea ZiF ZiD hlen2
  refine AWL.step ?_
  refine AWP.seq ?_
  refine ns ?_
  refine AWP.seq ?_
  refine nw ?_
  refine ZK ZiF ZiD (fun x12 ZtX Zt9 ZBi ZBJ => ?_) (fun Zt9 => ?_)
  ·subst Zt9
   refine nw ?_
   refine AWP.seq ?_
   refine AWP.block ?_
   refine AWP.seq ?_
   refine nn ?_
   refine sr (Zag (f := Za.cells) (Za.cells_eq x12) ZBi) ?_
   refine st ?_
   obtain ⟨r15, ZtZ, hF⟩ := bind_some hF
   refine ns ?_
   refine e3 ?_
   refine st ?_
   refine cm (Zk.weak (rn []) (Zgc x12 _ ZtZ) rfl (WS.mk (Zd (Zq (lc (lc (lc (lc Zn))))) (tc Zb)) Zc)) ?_
   refine st ?_
   refine ns ?_
   refine AWL.weak (rn []) ?_ (Zcy (if r15 > n_5 then r15 else n_5) t (Zgn + 1) ZtX _ hF (Zea ++ [x12]) (by rw [ZiF]; simp) (by rw [ZiD]; simp) hlen2)
   exact (WS.mk (tc (tc (tc (tc (Zd (Zp (Zc3 (ZX hlen2 ZBJ))) Zb))))) Zc)
  ·subst Zt9
   refine nw ?_
   refine AWP.seq ?_
   refine ns ?_
   obtain rfl := Zh hF
   refine ns ?_
   refine Exists.intro [] ?_
   refine st ?_
   exact wx (WS.mk (tc Zb) Zc)
theorem Zgd : ∀ (t : Za), ∀ r, Zz t = some r → Zz.M t r := ZfZ.1

mutual
def Zbl (k : Zi) : Option (Int) :=
 ZbM 1 k 0 k.fArgs
 partial_fixpoint
def ZbM (n_3 : Int) (k : Zi) (x_9 : Nat) (ZbQ : (List Zi)) : Option (Int) :=
 (match ZbQ with
 | x11 :: ZjF =>
 Zbl x11 >>= fun r14 =>
 ZbM (IntKind.i64.wrap (n_3 + r14)) k (x_9 + 1) ZjF
 | [] =>
 some n_3)
 partial_fixpoint
end
def Zbl.M (k : Zi) (r : Int) : Prop :=
 Zk Tryz.prog 76 [.agg [.sl (k.fArgs.map Zi.cells)]] [] (fun d b => d = .c none (.v (.int .i64 r)) ∧ b = [])
def ZbM.M (n_3 : Int) (k : Zi) (x_9 : Nat) (ZbQ : (List Zi)) (r : Int) : Prop :=
 ∀ ZcO : List Zi, k.fArgs = ZcO ++ ZbQ → x_9 = ZcO.length → k.fArgs.length ≤ maxLen → AWL Tryz.prog 19 (Code.sub (Zs Tryz.f76) [1, 1, 0, 1, 0, 0]) (Code.cont Tryz.prog 19 (Zs Tryz.f76) [1, 1, 0, 1, 0] (Zce tab Tryz.f76.results (Zch (.c none (.v (.int .i64 r))) []))) ⟨[(3, .c none (.v (.int .i64 n_3))), (7, .c none (.sl (k.fArgs.map Zi.cells))), (8, .c none (.v (.int .i64 ((k.fArgs.length : Nat) : Int)))), (9, .c none (.v (.int .i64 ((x_9 : Nat) : Int))))], []⟩
theorem Zmr : (∀ (k : Zi), ∀ r, Zbl k = some r → Zbl.M k r) ∧ (∀ (n_3 : Int) (k : Zi) (x_9 : Nat) (ZbQ : (List Zi)), ∀ r, ZbM n_3 k x_9 ZbQ = some r → ZbM.M n_3 k x_9 ZbQ r) := by
 refine Zbl.mutual_partial_correctness Zbl.M ZbM.M ?_ ?_
 ·intro types_kindSize_l1' Ze5 k r hF
  unfold Zbl.M
  refine en Tryz.func76 ?_
  refine AWP.seq ?_
  refine ns ?_
  refine AWP.seq ?_
  refine ns ?_
  refine AWP.seq ?_
  refine AWP.seq ?_
  refine ns ?_
  intro hlen1
  (try rw [List.length_map] at hlen1)
  (try rw [List.length_map])
  refine st ?_
  refine AWP.block ?_
  refine AWP.loop ?_
  refine AWL.weak (rn []) ?_ (Ze5 1 k 0 k.fArgs _ hF ([]) rfl rfl hlen1)
  exact (WS.mk (tc (tc (tc (tc Zb)))) Zc)
 ·intro types_kindSize' types_kindSize_l1' Znd Ze5 n_3 k x_9 ZbQ r hF
  unfold ZbM.M
  intro ZcO Zgm Zgy hlen1
  refine AWL.step ?_
  refine AWP.seq ?_
  refine ns ?_
  refine AWP.seq ?_
  refine nw ?_
  refine ZK Zgm Zgy (fun x11 ZjF ZjR Zpa ZsC => ?_) (fun ZjR => ?_)
  ·subst ZjR
   refine nw ?_
   refine AWP.seq ?_
   refine AWP.block ?_
   refine AWP.seq ?_
   refine nn ?_
   refine sr (Zag (f := Zi.cells) (Zi.cells_eq x11) Zpa) ?_
   refine st ?_
   obtain ⟨r14, Zmp, hF⟩ := bind_some hF
   refine ns ?_
   refine e3 ?_
   refine st ?_
   refine cm (Zk.weak (rn []) (Znd x11 _ Zmp) rfl (WS.mk (Zd (Zq (lc Zn)) Zb) Zc)) ?_
   refine st ?_
   refine ns ?_
   refine AWL.weak (rn []) ?_ (Ze5 (IntKind.i64.wrap (n_3 + r14)) k (x_9 + 1) ZjF _ hF (ZcO ++ [x11]) (by rw [Zgm]; simp) (by rw [Zgy]; simp) hlen1)
   exact (WS.mk (tc (tc (tc (Zd (Zp (Zc3 (ZX hlen1 ZsC))) Zb)))) Zc)
  ·subst ZjR
   refine nw ?_
   refine AWP.seq ?_
   refine ns ?_
   obtain rfl := Zh hF
   refine ns ?_
   refine Exists.intro [] ?_
   refine st ?_
   exact wx (WS.mk (tc Zb) Zc)
theorem ZmY : ∀ (k : Zi), ∀ r, Zbl k = some r → Zbl.M k r := Zmr.1

mutual
def ZC (t : Za) : Option (Int) :=
 Zbl t.fBound >>= fun r1 =>
 ZN r1 t 0 t.fKids
 partial_fixpoint
def ZN (n_5 : Int) (t : Za) (Zgn : Nat) (ZcU : (List Za)) : Option (Int) :=
 (match ZcU with
 | x12 :: ZtX =>
 ZC x12 >>= fun r15 =>
 ZN (if r15 > n_5 then r15 else n_5) t (Zgn + 1) ZtX
 | [] =>
 some n_5)
 partial_fixpoint
end
def ZC.M (t : Za) (r : Int) : Prop :=
 Zk Tryz.prog 75 [.agg [.v (.int .i64 t.fOp), .v (.string t.fName), .sl (t.fBound.fArgs.map Zi.cells), .sl (t.fKids.map Za.cells)], .c none (.v (.func (.func 76) #[] #[]))] [] (fun d b => d = .c none (.v (.int .i64 r)) ∧ b = [])
def ZN.M (n_5 : Int) (t : Za) (Zgn : Nat) (ZcU : (List Za)) (r : Int) : Prop :=
 ∀ Zea : List Za, t.fKids = Zea ++ ZcU → Zgn = Zea.length → t.fKids.length ≤ maxLen → AWL Tryz.prog 26 (Code.sub (Zs Tryz.f75) [1, 1, 0, 1, 0, 0]) (Code.cont Tryz.prog 26 (Zs Tryz.f75) [1, 1, 0, 1, 0] (Zce tab Tryz.f75.results (Zch (.c none (.v (.int .i64 r))) []))) ⟨[(1, .c none (.v (.func (.func 76) #[] #[]))), (5, .c none (.v (.int .i64 n_5))), (13, .c none (.sl (t.fKids.map Za.cells))), (14, .c none (.v (.int .i64 ((t.fKids.length : Nat) : Int)))), (15, .c none (.v (.int .i64 ((Zgn : Nat) : Int))))], []⟩
theorem Zgg : (∀ (t : Za), ∀ r, ZC t = some r → ZC.M t r) ∧ (∀ (n_5 : Int) (t : Za) (Zgn : Nat) (ZcU : (List Za)), ∀ r, ZN n_5 t Zgn ZcU = some r → ZN.M n_5 t Zgn ZcU r) := by
 refine ZC.mutual_partial_correctness ZC.M ZN.M ?_ ?_
 ·intro types_greatest_types_kindSize_l1' ZcE t r hF
  unfold ZC.M
  refine en Tryz.func75 ?_
  refine AWP.seq ?_
  refine ns ?_
  refine AWP.seq ?_
  obtain ⟨r1, hr1, hF⟩ := bind_some hF
  refine ns ?_
  refine e3 ?_
  refine st ?_
  refine cm (Zk.weak (rn []) (ZmY t.fBound _ hr1) rfl (WS.mk (Zd (Zq (lc Zn)) Zb) Zc)) ?_
  refine st ?_
  refine AWP.seq ?_
  refine AWP.seq ?_
  refine ns ?_
  intro hlen2
  (try rw [List.length_map] at hlen2)
  (try rw [List.length_map])
  refine st ?_
  refine AWP.block ?_
  refine AWP.loop ?_
  refine AWL.weak (rn []) ?_ (ZcE r1 t 0 t.fKids _ hF ([]) rfl rfl hlen2)
  exact (WS.mk (tc (tc (tc (tc (tc Zb))))) Zc)
 ·intro types_greatest_types_kindSize' types_greatest_types_kindSize_l1' Zgu ZcE n_5 t Zgn ZcU r hF
  unfold ZN.M
  intro Zea ZiF ZiD hlen2
  refine AWL.step ?_
  refine AWP.seq ?_
  refine ns ?_
  refine AWP.seq ?_
  refine nw ?_
  refine ZK ZiF ZiD (fun x12 ZtX Zt9 ZBi ZBJ => ?_) (fun Zt9 => ?_)
  ·subst Zt9
   refine nw ?_
   refine AWP.seq ?_
   refine AWP.block ?_
   refine AWP.seq ?_
   refine nn ?_
   refine sr (Zag (f := Za.cells) (Za.cells_eq x12) ZBi) ?_
   refine st ?_
   obtain ⟨r15, ZtZ, hF⟩ := bind_some hF
   refine ns ?_
   refine e3 ?_
   refine st ?_
   refine cm (Zk.weak (rn []) (Zgu x12 _ ZtZ) rfl (WS.mk (Zd (Zq (lc (lc (lc (lc Zn))))) (tc Zb)) Zc)) ?_
   refine st ?_
   refine ns ?_
   refine AWL.weak (rn []) ?_ (ZcE (if r15 > n_5 then r15 else n_5) t (Zgn + 1) ZtX _ hF (Zea ++ [x12]) (by rw [ZiF]; simp) (by rw [ZiD]; simp) hlen2)
   exact (WS.mk (tc (tc (tc (tc (Zd (Zp (Zc3 (ZX hlen2 ZBJ))) Zb))))) Zc)
  ·subst Zt9
   refine nw ?_
   refine AWP.seq ?_
   refine ns ?_
   obtain rfl := Zh hF
   refine ns ?_
   refine Exists.intro [] ?_
   refine st ?_
   exact wx (WS.mk (tc Zb) Zc)
theorem ZgB : ∀ (t : Za), ∀ r, ZC t = some r → ZC.M t r := Zgg.1

def Zbm (t : Za) : Option (Int) :=
 Zby t >>= fun r1 =>
 if (!r1) = true then
 some 1
 else
 Zca t >>= fun r3 =>
 (if (decide (r3 > 20000)) = true then some true else ZC t >>= fun r4 =>
 some (decide (r4 > 20000))) >>= fun c5 =>
 if c5 = true then
 some 3
 else
 ZbP t >>= fun r8 =>
 (if (decide (r8 > 100)) = true then some true else Zz t >>= fun r9 =>
 some (decide (r9 > 100))) >>= fun c10 =>
 if c10 = true then
 some 4
 else
 some 0
def Zbm.M (t : Za) (r : Int) : Prop :=
 Zk Tryz.prog 50 [.agg [.v (.int .i64 t.fOp), .v (.string t.fName), .sl (t.fBound.fArgs.map Zi.cells), .sl (t.fKids.map Za.cells)]] [] (fun d b => d = .c none (.v (.int .i64 r)) ∧ b = [])
theorem Zdr (t : Za) (r : Int) (hF : Zbm t = some r) : Zbm.M t r := by
 unfold Zbm at hF
 unfold Zbm.M
 refine en Tryz.func50 ?_
 refine AWP.seq ?_
 refine ns ?_
 refine AWP.seq ?_
 refine AWP.block ?_
 refine AWP.seq ?_
 obtain ⟨r1, hr1, hF⟩ := bind_some hF
 refine ns ?_
 refine e3 ?_
 refine st ?_
 refine cm (Zk.weak (rn []) (ZoG t _ hr1) rfl (WS.mk (Zd (Zq (lc (lc (lc (lc Zn))))) Zb) Zc)) ?_
 refine st ?_
 refine nw ?_
 refine Zj hF (fun hc2 hF => ?_) (fun hc2 hF => ?_)
 ·refine AWP.seq ?_
  refine ns ?_
  obtain rfl := Zh hF
  refine ns ?_
  refine Exists.intro [] ?_
  refine st ?_
  exact wx (WS.mk (tc Zb) Zc)
 ·refine AWP.seq ?_
  obtain ⟨r3, hr3, hF⟩ := bind_some hF
  obtain ⟨c5, hc5, hF⟩ := bind_some hF
  refine AWP.cutN (fun T => ∃ r, WS r T ⟨[(1, .ptr 1 0), (7, .c none (.v (.bool c5)))], [(1, [(none, .v (.int .i64 t.fOp)), (none, .v (.string t.fName)), (none, .sl (t.fBound.fArgs.map Zi.cells)), (none, .sl (t.fKids.map Za.cells))])]⟩) ?_ (fun T hw => ?_)
  ·refine ns ?_
   refine e3 ?_
   refine st ?_
   refine cm (Zk.weak (rn []) (Zl9 t _ hr3) rfl (WS.mk (Zd (Zq (lc (lc (lc (lc Zn))))) Zb) Zc)) ?_
   refine st ?_
   refine Zl false (fun hc6 => ?_) (fun hc6 => ?_)
   ·have hc5 := ift hc6 hc5
    (conv => whnf)
    obtain rfl := Zh hc5
    refine st ?_
    exact wx (WS.mk (tp (Zd (Zp (web hc6)) Zb)) (Ze rfl (cc (cc (cc (cc Zg)))) Zc))
   ·have hc5 := ife hc6 hc5
    obtain ⟨r4, hr4, hc5⟩ := bind_some hc5
    (conv => whnf)
    refine st ?_
    refine e3 ?_
    refine st ?_
    refine cm (Zk.weak (rn []) (ZgB t _ hr4) rfl (WS.mk (Zd (Zq (lc (lc (lc (lc Zn))))) (tc Zb)) Zc)) ?_
    refine st ?_
    obtain rfl := Zh hc5
    refine st ?_
    exact wx (WS.mk (tp (Zd (Zp (web hc6)) Zb)) (Ze rfl (cc (cc (cc (cc Zg)))) Zc))
  obtain ⟨r0, hw⟩ := hw
  (conv => whnf)
  refine AWP.weak r0 hw ?_
  refine nw ?_
  refine Zj hF (fun hc7 hF => ?_) (fun hc7 hF => ?_)
  ·refine AWP.seq ?_
   refine ns ?_
   obtain rfl := Zh hF
   refine ns ?_
   refine Exists.intro [] ?_
   refine st ?_
   exact wx (WS.mk (tc Zb) Zc)
  ·refine AWP.seq ?_
   obtain ⟨r8, hr8, hF⟩ := bind_some hF
   obtain ⟨c10, Zd5, hF⟩ := bind_some hF
   refine AWP.cutN (fun T => ∃ r, WS r T ⟨[(16, .c none (.v (.bool c10)))], []⟩) ?_ (fun T hw => ?_)
   ·refine ns ?_
    refine e3 ?_
    refine st ?_
    refine cm (Zk.weak (rn []) (Zk8 t _ hr8) rfl (WS.mk (Zd (Zq (lc (lc (lc (lc Zn))))) Zb) Zc)) ?_
    refine st ?_
    refine Zl false (fun ZbR => ?_) (fun ZbR => ?_)
    ·have Zd5 := ift ZbR Zd5
     (conv => whnf)
     obtain rfl := Zh Zd5
     refine st ?_
     exact wx (WS.mk (Zd (Zp (web ZbR)) Zb) Zc)
    ·have Zd5 := ife ZbR Zd5
     obtain ⟨r9, hr9, Zd5⟩ := bind_some Zd5
     (conv => whnf)
     refine st ?_
     refine e3 ?_
     refine st ?_
     refine cm (Zk.weak (rn []) (Zgd t _ hr9) rfl (WS.mk (Zd (Zq (lc (lc (lc (lc Zn))))) (tc Zb)) Zc)) ?_
     refine st ?_
     obtain rfl := Zh Zd5
     refine st ?_
     exact wx (WS.mk (Zd (Zp (web ZbR)) Zb) Zc)
   obtain ⟨r0, hw⟩ := hw
   (conv => whnf)
   refine AWP.weak r0 hw ?_
   refine nw ?_
   refine Zj hF (fun ZdO hF => ?_) (fun ZdO hF => ?_)
   ·refine AWP.seq ?_
    refine ns ?_
    obtain rfl := Zh hF
    refine ns ?_
    refine Exists.intro [] ?_
    refine st ?_
    exact wx (WS.mk (tc Zb) Zc)
   ·refine nw ?_
    refine AWP.seq ?_
    refine ns ?_
    obtain rfl := Zh hF
    refine ns ?_
    refine Exists.intro [] ?_
    refine st ?_
    exact wx (WS.mk (tc Zb) Zc)

mutual
def Zau (t : Za) : Option (Int) :=
 Zbd 0 0 t t.fKids
 partial_fixpoint
def Zbd (n_3 : Int) (i_4 : Nat) (t : Za) (Zbk : (List Za)) : Option (Int) :=
 (match Zbk with
 | x16 :: Zj1 =>
 Zau x16 >>= fun r19 =>
 Zbd (if r19 > n_3 then r19 else n_3) (i_4 + 1) t Zj1
 | [] =>
 some (IntKind.i64.wrap (n_3 + 1)))
 partial_fixpoint
end
def Zau.M (t : Za) (r : Int) : Prop :=
 Zk Tryz.prog 29 [.agg [.v (.int .i64 t.fOp), .v (.string t.fName), .sl (t.fBound.fArgs.map Zi.cells), .sl (t.fKids.map Za.cells)]] [] (fun d b => d = .c none (.v (.int .i64 r)) ∧ b = [])
def Zbd.M (n_3 : Int) (i_4 : Nat) (t : Za) (Zbk : (List Za)) (r : Int) : Prop :=
 ∀ ZcQ : List Za, t.fKids = ZcQ ++ Zbk → i_4 = ZcQ.length → AWL Tryz.prog 22 (Code.sub (Zs Tryz.f29) [1, 1, 0, 1, 0, 0]) (Code.cont Tryz.prog 22 (Zs Tryz.f29) [1, 1, 0, 1, 0] (Zce tab Tryz.f29.results (Zch (.c none (.v (.int .i64 r))) []))) ⟨[(1, .ptr 1 0), (3, .c none (.v (.int .i64 n_3))), (4, .c none (.v (.int .i64 ((i_4 : Nat) : Int))))], [(1, [(none, .v (.int .i64 t.fOp)), (none, .v (.string t.fName)), (none, .sl (t.fBound.fArgs.map Zi.cells)), (none, .sl (t.fKids.map Za.cells))])]⟩
theorem Zle : (∀ (t : Za), ∀ r, Zau t = some r → Zau.M t r) ∧ (∀ (n_3 : Int) (i_4 : Nat) (t : Za) (Zbk : (List Za)), ∀ r, Zbd n_3 i_4 t Zbk = some r → Zbd.M n_3 i_4 t Zbk r) := by
 refine Zau.mutual_partial_correctness Zau.M Zbd.M ?_ ?_
 ·intro lazycref04_Depth_l1' ZeD t r hF
  unfold Zau.M
  refine en Tryz.func29 ?_
  refine AWP.seq ?_
  refine ns ?_
  refine AWP.seq ?_
  refine ns ?_
  refine AWP.seq ?_
  refine AWP.seq ?_
  refine ns ?_
  refine AWP.block ?_
  refine AWP.loop ?_
  refine AWL.weak (rn []) ?_ (ZeD 0 0 t t.fKids _ hF ([]) rfl rfl)
  exact (WS.mk (tp (tc (tc Zb))) (Ze rfl (cc (cc (cc (cc Zg)))) Zc))
 ·intro lazycref04_Depth' lazycref04_Depth_l1' Zl8 ZeD n_3 i_4 t Zbk r hF
  unfold Zbd.M
  intro ZcQ Zgw Zgo
  refine AWL.step ?_
  refine AWP.seq ?_
  refine AWP.seq ?_
  refine ns ?_
  intro hlen15
  (try rw [List.length_map] at hlen15)
  (try rw [List.length_map])
  refine st ?_
  refine nw ?_
  refine ZK Zgw Zgo (fun x16 Zj1 Zj6 ZqS Zsq => ?_) (fun Zj6 => ?_)
  ·subst Zj6
   refine nw ?_
   refine AWP.seq ?_
   refine AWP.block ?_
   obtain ⟨r19, Zsh, hF⟩ := bind_some hF
   refine nn ?_
   refine sr (Zag (f := Za.cells) (Za.cells_eq x16) ZqS) ?_
   refine st ?_
   refine e3 ?_
   refine st ?_
   refine cm (Zk.weak (rn []) (Zl8 x16 _ Zsh) rfl (WS.mk (Zd (Zq (lc (lc (lc (lc Zn))))) Zb) Zc)) ?_
   refine st ?_
   refine ns ?_
   refine AWL.weak (rn []) ?_ (ZeD (if r19 > n_3 then r19 else n_3) (i_4 + 1) t Zj1 _ hF (ZcQ ++ [x16]) (by rw [Zgw]; simp) (by rw [Zgo]; simp))
   exact (WS.mk (tp (tc (Zd (Zp (Zc3 (ZX hlen15 Zsq))) Zb))) (Ze rfl (cc (cc (cc (cc Zg)))) Zc))
  ·subst Zj6
   refine nw ?_
   refine AWP.seq ?_
   refine ns ?_
   obtain rfl := Zh hF
   refine ns ?_
   refine Exists.intro [] ?_
   refine st ?_
   exact wx (WS.mk (tc Zb) Zc)
theorem ZhA : ∀ (t : Za), ∀ r, Zau t = some r → Zau.M t r := Zle.1

mutual
def ZaE (t : Za) : Option (Int) :=
 Zbr 1 0 t t.fKids
 partial_fixpoint
def Zbr (n_3 : Int) (i_4 : Nat) (t : Za) (Zbk : (List Za)) : Option (Int) :=
 (match Zbk with
 | x16 :: Zj1 =>
 ZaE x16 >>= fun r19 =>
 Zbr (IntKind.i64.wrap (n_3 + r19)) (i_4 + 1) t Zj1
 | [] =>
 some n_3)
 partial_fixpoint
end
def ZaE.M (t : Za) (r : Int) : Prop :=
 Zk Tryz.prog 28 [.agg [.v (.int .i64 t.fOp), .v (.string t.fName), .sl (t.fBound.fArgs.map Zi.cells), .sl (t.fKids.map Za.cells)]] [] (fun d b => d = .c none (.v (.int .i64 r)) ∧ b = [])
def Zbr.M (n_3 : Int) (i_4 : Nat) (t : Za) (Zbk : (List Za)) (r : Int) : Prop :=
 ∀ ZcQ : List Za, t.fKids = ZcQ ++ Zbk → i_4 = ZcQ.length → AWL Tryz.prog 21 (Code.sub (Zs Tryz.f28) [1, 1, 0, 1, 0, 0]) (Code.cont Tryz.prog 21 (Zs Tryz.f28) [1, 1, 0, 1, 0] (Zce tab Tryz.f28.results (Zch (.c none (.v (.int .i64 r))) []))) ⟨[(1, .ptr 1 0), (3, .c none (.v (.int .i64 n_3))), (4, .c none (.v (.int .i64 ((i_4 : Nat) : Int))))], [(1, [(none, .v (.int .i64 t.fOp)), (none, .v (.string t.fName)), (none, .sl (t.fBound.fArgs.map Zi.cells)), (none, .sl (t.fKids.map Za.cells))])]⟩
theorem Zl2 : (∀ (t : Za), ∀ r, ZaE t = some r → ZaE.M t r) ∧ (∀ (n_3 : Int) (i_4 : Nat) (t : Za) (Zbk : (List Za)), ∀ r, Zbr n_3 i_4 t Zbk = some r → Zbr.M n_3 i_4 t Zbk r) := by
 refine ZaE.mutual_partial_correctness ZaE.M Zbr.M ?_ ?_
 ·intro lazycref04_Size_l1' ZeU t r hF
  unfold ZaE.M
  refine en Tryz.func28 ?_
  refine AWP.seq ?_
  refine ns ?_
  refine AWP.seq ?_
  refine ns ?_
  refine AWP.seq ?_
  refine AWP.seq ?_
  refine ns ?_
  refine AWP.block ?_
  refine AWP.loop ?_
  refine AWL.weak (rn []) ?_ (ZeU 1 0 t t.fKids _ hF ([]) rfl rfl)
  exact (WS.mk (tp (tc (tc Zb))) (Ze rfl (cc (cc (cc (cc Zg)))) Zc))
 ·intro lazycref04_Size' lazycref04_Size_l1' ZmM ZeU n_3 i_4 t Zbk r hF
  unfold Zbr.M
  intro ZcQ Zgw Zgo
  refine AWL.step ?_
  refine AWP.seq ?_
  refine AWP.seq ?_
  refine ns ?_
  intro hlen15
  (try rw [List.length_map] at hlen15)
  (try rw [List.length_map])
  refine st ?_
  refine nw ?_
  refine ZK Zgw Zgo (fun x16 Zj1 Zj6 ZqS Zsq => ?_) (fun Zj6 => ?_)
  ·subst Zj6
   refine nw ?_
   refine AWP.seq ?_
   refine AWP.block ?_
   obtain ⟨r19, Zsh, hF⟩ := bind_some hF
   refine nn ?_
   refine sr (Zag (f := Za.cells) (Za.cells_eq x16) ZqS) ?_
   refine st ?_
   refine e3 ?_
   refine st ?_
   refine cm (Zk.weak (rn []) (ZmM x16 _ Zsh) rfl (WS.mk (Zd (Zq (lc (lc (lc (lc Zn))))) Zb) Zc)) ?_
   refine st ?_
   refine ns ?_
   refine AWL.weak (rn []) ?_ (ZeU (IntKind.i64.wrap (n_3 + r19)) (i_4 + 1) t Zj1 _ hF (ZcQ ++ [x16]) (by rw [Zgw]; simp) (by rw [Zgo]; simp))
   exact (WS.mk (tp (tc (Zd (Zp (Zc3 (ZX hlen15 Zsq))) Zb))) (Ze rfl (cc (cc (cc (cc Zg)))) Zc))
  ·subst Zj6
   refine nw ?_
   refine AWP.seq ?_
   refine ns ?_
   obtain rfl := Zh hF
   refine ns ?_
   refine Exists.intro [] ?_
   refine st ?_
   exact wx (WS.mk (tc Zb) Zc)
theorem Zil : ∀ (t : Za), ∀ r, ZaE t = some r → ZaE.M t r := Zl2.1

def Zah (n : Int) (s_3 : ByteArray) (i_4 : Nat) : Option (ByteArray) :=
 if (decide (((i_4 : Nat) : Int) < n)) = true then
 Zac (((s_3.size + (ByteArray.mk #[44]).size : Nat) : Int) ≤ IntKind.i64.max) >>= fun _ =>
 Zac (i_4 + 1 ≤ 9223372036854775807) >>= fun _ =>
 Zah n (s_3 ++ (ByteArray.mk #[44])) (i_4 + 1)
 else
 Zac (((s_3.size + (ByteArray.mk #[41]).size : Nat) : Int) ≤ IntKind.i64.max) >>= fun _ =>
 some (s_3 ++ (ByteArray.mk #[41]))
 partial_fixpoint
def Zah.M (n : Int) (s_3 : ByteArray) (i_4 : Nat) (r : ByteArray) : Prop :=
 AWL Tryz.prog 14 (Code.sub (Zs Tryz.f128) [1, 1, 0, 1, 0, 0]) (Code.cont Tryz.prog 14 (Zs Tryz.f128) [1, 1, 0, 1, 0] (Zce tab Tryz.f128.results (Zch (.c none (.v (.string r))) []))) ⟨[(0, .c none (.v (.int .i64 n))), (3, .c none (.v (.string s_3))), (4, .c none (.v (.int .i64 ((i_4 : Nat) : Int))))], []⟩
theorem Zih (n : Int) (s_3 : ByteArray) (i_4 : Nat) : ∀ r, Zah n s_3 i_4 = some r → Zah.M n s_3 i_4 r := by
 refine Zah.partial_correctness n (fun s_3 i_4 r => Zah.M n s_3 i_4 r) ?_ s_3 i_4
 intro lazycref04_TupleName_l1' ZeY s_3 i_4 r hF
 have Zh6 := fun (_n : Int) (s_3 : ByteArray) (i_4 : Nat) => ZeY s_3 i_4
 clear ZeY
 unfold Zah.M
 refine AWL.step ?_
 refine AWP.seq ?_
 refine AWP.seq ?_
 refine ns ?_
 refine nw ?_
 refine Zj hF (fun hc9 hF => ?_) (fun hc9 hF => ?_)
 ·refine nw ?_
  refine AWP.seq ?_
  refine AWP.block ?_
  obtain ⟨ZyM, hF⟩ := ZD hF
  refine ns ?_
  refine And.intro ZyM ?_
  refine st ?_
  obtain ⟨Zz3, hF⟩ := ZD hF
  refine ns ?_
  refine AWL.weak (rn []) ?_ (Zh6 n (s_3 ++ (ByteArray.mk #[44])) (i_4 + 1) _ hF)
  exact (WS.mk (tc (tc (Zd (Zp (Zc3 (ZcM Zz3))) Zb))) Zc)
 ·refine nw ?_
  refine AWP.seq ?_
  obtain ⟨ZyU, hF⟩ := ZD hF
  refine ns ?_
  refine And.intro ZyU ?_
  refine st ?_
  obtain rfl := Zh hF
  refine ns ?_
  refine Exists.intro [] ?_
  refine st ?_
  exact wx (WS.mk (tc Zb) Zc)

def ZbO (n : Int) : Option (ByteArray) :=
 Zah n (ByteArray.mk #[40]) 1
def ZbO.M (n : Int) (r : ByteArray) : Prop :=
 Zk Tryz.prog 128 [.c none (.v (.int .i64 n))] [] (fun d b => d = .c none (.v (.string r)) ∧ b = [])
theorem Zjt (n : Int) (r : ByteArray) (hF : ZbO n = some r) : ZbO.M n r := by
 unfold ZbO at hF
 unfold ZbO.M
 refine en Tryz.func128 ?_
 refine AWP.seq ?_
 refine ns ?_
 refine AWP.seq ?_
 refine ns ?_
 refine AWP.seq ?_
 refine AWP.seq ?_
 refine ns ?_
 refine AWP.block ?_
 refine AWP.loop ?_
 refine AWL.weak (rn []) ?_ (Zih n (ByteArray.mk #[40]) 1 _ hF)
 exact (WS.mk (tc (tc (tc Zb))) Zc)

def ZaQ (s : ByteArray) (n_3 : Nat) : Option (Int) :=
 if (decide (((n_3 : Nat) : Int) ≤ 7)) = true then
 ZbO ((n_3 : Nat) : Int) >>= fun r10 =>
 if (s.toList == r10.toList) = true then
 some ((n_3 : Nat) : Int)
 else
 Zac (n_3 + 1 ≤ 9223372036854775807) >>= fun _ =>
 ZaQ s (n_3 + 1)
 else
 some 0
 partial_fixpoint
def ZaQ.M (s : ByteArray) (n_3 : Nat) (r : Int) : Prop :=
 AWL Tryz.prog 13 (Code.sub (Zs Tryz.f107) [1, 0, 1, 0, 0]) (Code.cont Tryz.prog 13 (Zs Tryz.f107) [1, 0, 1, 0] (Zce tab Tryz.f107.results (Zch (.c none (.v (.int .i64 r))) []))) ⟨[(0, .c none (.v (.string s))), (3, .c none (.v (.int .i64 ((n_3 : Nat) : Int))))], []⟩
theorem Zkf (s : ByteArray) (n_3 : Nat) : ∀ r, ZaQ s n_3 = some r → ZaQ.M s n_3 r := by
 refine ZaQ.partial_correctness s (fun n_3 r => ZaQ.M s n_3 r) ?_ n_3
 intro lazycref04_Arity_l1' Zf5 n_3 r hF
 have ZjO := fun (_s : ByteArray) (n_3 : Nat) => Zf5 n_3
 clear Zf5
 unfold ZaQ.M
 refine AWL.step ?_
 refine AWP.seq ?_
 refine AWP.seq ?_
 refine ns ?_
 refine nw ?_
 refine Zj hF (fun hc9 hF => ?_) (fun hc9 hF => ?_)
 ·refine nw ?_
  refine AWP.seq ?_
  refine AWP.block ?_
  refine AWP.seq ?_
  obtain ⟨r10, Zqd, hF⟩ := bind_some hF
  refine ns ?_
  refine e3 ?_
  refine st ?_
  refine cm (Zk.weak (rn []) (Zjt ((n_3 : Nat) : Int) _ Zqd) rfl (WS.mk (tc Zb) Zc)) ?_
  refine st ?_
  refine nw ?_
  refine Zj hF (fun ZbR hF => ?_) (fun ZbR hF => ?_)
  ·refine AWP.seq ?_
   refine ns ?_
   obtain rfl := Zh hF
   refine ns ?_
   refine Exists.intro [] ?_
   refine st ?_
   exact wx (WS.mk (tc Zb) Zc)
  ·refine nw ?_
   obtain ⟨ZyU, hF⟩ := ZD hF
   refine ns ?_
   refine AWL.weak (rn []) ?_ (ZjO s (n_3 + 1) _ hF)
   exact (WS.mk (tc (Zd (Zp (Zc3 (ZcM ZyU))) Zb)) Zc)
 ·refine nw ?_
  refine AWP.seq ?_
  refine ns ?_
  obtain rfl := Zh hF
  refine ns ?_
  refine Exists.intro [] ?_
  refine st ?_
  exact wx (WS.mk (tc Zb) Zc)

def Zdh (s : ByteArray) : Option (Int) :=
 ZaQ s 2
def Zdh.M (s : ByteArray) (r : Int) : Prop :=
 Zk Tryz.prog 107 [.c none (.v (.string s))] [] (fun d b => d = .c none (.v (.int .i64 r)) ∧ b = [])
theorem ZlR (s : ByteArray) (r : Int) (hF : Zdh s = some r) : Zdh.M s r := by
 unfold Zdh at hF
 unfold Zdh.M
 refine en Tryz.func107 ?_
 refine AWP.seq ?_
 refine ns ?_
 refine AWP.seq ?_
 refine AWP.seq ?_
 refine ns ?_
 refine AWP.block ?_
 refine AWP.loop ?_
 refine AWL.weak (rn []) ?_ (Zkf s 2 _ hF)
 exact (WS.mk (tc (tc Zb)) Zc)

def ZaU (b_3 : ByteArray) : Option (Bool) :=
 Za4 b_3 >>= fun r5 =>
 some ((r5 == 2) || (r5 == 4))
def ZaU.M (b_3 : ByteArray) (r : Bool) : Prop :=
 AWP Tryz.prog 34 (Code.sub (Zs Tryz.f106) [1, 1, 1, 1, 1]) (Code.cont Tryz.prog 34 (Zs Tryz.f106) [1, 1, 1, 1, 1] (Zce tab Tryz.f106.results (Zch (.c none (.v (.bool r))) []))) ⟨[(3, .c none (.v (.string b_3)))], []⟩
theorem Zfq (b_3 : ByteArray) (r : Bool) (hF : ZaU b_3 = some r) : ZaU.M b_3 r := by
 unfold ZaU at hF
 unfold ZaU.M
 refine AWP.seq ?_
 obtain ⟨r5, hr5, hF⟩ := bind_some hF
 refine ns ?_
 refine e3 ?_
 refine st ?_
 refine cm (Zk.weak (rn []) (Zdn b_3 _ hr5) rfl (WS.mk (tc Zb) Zc)) ?_
 refine st ?_
 refine AWP.seq ?_
 refine AWP.cutN (fun T => ∃ r, WS r T ⟨[(2, .c none (.v (.bool ((r5 == 2) || (r5 == 4)))))], []⟩) ?_ (fun T hw => ?_)
 ·refine ns ?_
  refine Zl false (fun hc6 => ?_) (fun hc6 => ?_)
  ·(conv => whnf)
   refine st ?_
   exact wx (WS.mk (Zd (Zp (web hc6)) Zb) Zc)
  ·(conv => whnf)
   refine st ?_
   exact wx (WS.mk (Zd (Zp (web hc6)) Zb) Zc)
 obtain ⟨r0, hw⟩ := hw
 (conv => whnf)
 refine AWP.weak r0 hw ?_
 obtain rfl := Zh hF
 refine ns ?_
 refine Exists.intro [] ?_
 refine st ?_
 exact wx (WS.mk (tc Zb) Zc)

def ZaS (b_3 : ByteArray) : Option (Bool) :=
 Zcv b_3 >>= fun r3 =>
 if r3.2.2 = true then
 ZaU r3.2.1
 else
 ZaU b_3
def ZaS.M (b_3 : ByteArray) (r : Bool) : Prop :=
 AWP Tryz.prog 34 (Code.sub (Zs Tryz.f106) [1, 1, 1]) (Code.cont Tryz.prog 34 (Zs Tryz.f106) [1, 1, 1] (Zce tab Tryz.f106.results (Zch (.c none (.v (.bool r))) []))) ⟨[(3, .c none (.v (.string b_3)))], []⟩
theorem Zfo (b_3 : ByteArray) (r : Bool) (hF : ZaS b_3 = some r) : ZaS.M b_3 r := by
 unfold ZaS at hF
 unfold ZaS.M
 refine AWP.seq ?_
 obtain ⟨r3, hr3, hF⟩ := bind_some hF
 refine ns ?_
 refine e3 ?_
 refine st ?_
 refine cm (Zk.weak (rn []) (ZhJ b_3 _ hr3) rfl (WS.mk (tc Zb) Zc)) ?_
 refine st ?_
 refine AWP.seq ?_
 refine AWP.seq ?_
 refine ns ?_
 refine nw ?_
 refine Zj hF (fun hc7 hF => ?_) (fun hc7 hF => ?_)
 ·refine ns ?_
  refine AWP.weak (rn []) ?_ (Zfq r3.2.1 _ hF)
  exact (WS.mk (tc Zb) Zc)
 ·refine nw ?_
  refine AWP.weak (rn []) ?_ (Zfq b_3 _ hF)
  exact (WS.mk (tc Zb) Zc)

def Zb7 (s : ByteArray) : Option (Bool) :=
 ZcK s >>= fun r1 =>
 if (!r1.2.2) = true then
 ZaS s
 else
 ZaS r1.1
def Zb7.M (s : ByteArray) (r : Bool) : Prop :=
 Zk Tryz.prog 106 [.c none (.v (.string s))] [] (fun d b => d = .c none (.v (.bool r)) ∧ b = [])
theorem Zkc (s : ByteArray) (r : Bool) (hF : Zb7 s = some r) : Zb7.M s r := by
 unfold Zb7 at hF
 unfold Zb7.M
 refine en Tryz.func106 ?_
 refine AWP.seq ?_
 refine ns ?_
 refine AWP.seq ?_
 obtain ⟨r1, hr1, hF⟩ := bind_some hF
 refine ns ?_
 refine e3 ?_
 refine st ?_
 refine cm (Zk.weak (rn []) (Zio s _ hr1) rfl (WS.mk (tc Zb) Zc)) ?_
 refine st ?_
 refine AWP.seq ?_
 refine AWP.seq ?_
 refine ns ?_
 refine nw ?_
 refine Zj hF (fun hc8 hF => ?_) (fun hc8 hF => ?_)
 ·refine ns ?_
  refine AWP.weak (rn []) ?_ (Zfo s _ hF)
  exact (WS.mk (tc Zb) Zc)
 ·refine nw ?_
  refine AWP.weak (rn []) ?_ (Zfo r1.1 _ hF)
  exact (WS.mk (tc Zb) Zc)

def Zcm (s : ByteArray) : Option (Bool) :=
 Zb7 s >>= fun r1 =>
 (if (((r1 || (s.toList == (ByteArray.mk #[45, 62]).toList)) || (s.toList == (ByteArray.mk #[91, 93]).toList)) || (s.toList == (ByteArray.mk #[40, 41]).toList)) = true then some true else Zdh s >>= fun r2 =>
 some (decide (r2 > 0))) >>= fun c3 =>
 some c3
def Zcm.M (s : ByteArray) (r : Bool) : Prop :=
 Zk Tryz.prog 81 [.c none (.v (.string s))] [] (fun d b => d = .c none (.v (.bool r)) ∧ b = [])
theorem ZkE (s : ByteArray) (r : Bool) (hF : Zcm s = some r) : Zcm.M s r := by
 unfold Zcm at hF
 unfold Zcm.M
 refine en Tryz.func81 ?_
 refine AWP.seq ?_
 refine ns ?_
 refine AWP.seq ?_
 obtain ⟨r1, hr1, hF⟩ := bind_some hF
 obtain ⟨c3, hc3, hF⟩ := bind_some hF
 refine AWP.cutN (fun T => ∃ r, WS r T ⟨[(2, .c none (.v (.bool c3)))], []⟩) ?_ (fun T hw => ?_)
 ·refine ns ?_
  refine e3 ?_
  refine st ?_
  refine cm (Zk.weak (rn []) (Zkc s _ hr1) rfl (WS.mk (tc Zb) Zc)) ?_
  refine st ?_
  refine Zl false (fun hc4 => ?_) (fun hc4 => ?_)
  ·(conv => whnf)
   have hc3 := ift hc4 hc3
   obtain rfl := Zh hc3
   refine st ?_
   exact wx (WS.mk (Zd (Zp (web hc4)) Zb) Zc)
  ·(conv => whnf)
   refine st ?_
   refine Zl false (fun hc5 => ?_) (fun hc5 => ?_)
   ·(conv => whnf)
    have hc3 := ift (And.intro hc4 hc5) hc3
    obtain rfl := Zh hc3
    refine st ?_
    exact wx (WS.mk (Zd (Zp (web (And.intro hc4 hc5))) Zb) Zc)
   ·(conv => whnf)
    refine st ?_
    refine Zl false (fun hc6 => ?_) (fun hc6 => ?_)
    ·(conv => whnf)
     have hc3 := ift (And.intro hc4 (And.intro hc5 hc6)) hc3
     obtain rfl := Zh hc3
     refine st ?_
     exact wx (WS.mk (Zd (Zp (web (And.intro hc4 (And.intro hc5 hc6)))) Zb) Zc)
    ·(conv => whnf)
     refine st ?_
     refine Zl false (fun hc7 => ?_) (fun hc7 => ?_)
     ·have hc3 := ift (And.intro hc4 (And.intro hc5 (And.intro hc6 hc7))) hc3
      (conv => whnf)
      obtain rfl := Zh hc3
      refine st ?_
      exact wx (WS.mk (Zd (Zp (web (And.intro hc4 (And.intro hc5 (And.intro hc6 hc7))))) Zb) Zc)
     ·have hc3 := ife (And.intro hc4 (And.intro hc5 (And.intro hc6 hc7))) hc3
      obtain ⟨r2, hr2, hc3⟩ := bind_some hc3
      (conv => whnf)
      refine st ?_
      refine e3 ?_
      refine st ?_
      refine cm (Zk.weak (rn []) (ZlR s _ hr2) rfl (WS.mk (tc Zb) Zc)) ?_
      refine st ?_
      obtain rfl := Zh hc3
      refine st ?_
      exact wx (WS.mk (Zd (Zp (web (And.intro hc4 (And.intro hc5 (And.intro hc6 hc7))))) Zb) Zc)
 obtain ⟨r0, hw⟩ := hw
 (conv => whnf)
 refine AWP.weak r0 hw ?_
 obtain rfl := Zh hF
 refine ns ?_
 refine Exists.intro [] ?_
 refine st ?_
 exact wx (WS.mk (tc Zb) Zc)

def ZbU (s : ByteArray) : Option (Bool) :=
 ZcK s >>= fun r1 =>
 if r1.2.2 = true then
 Za4 r1.1 >>= fun r5 =>
 some (r5 == 1)
 else
 Za4 s >>= fun r6 =>
 some ((r6 == 1) && (!(s.toList == (ByteArray.mk #[102, 111, 114, 97, 108, 108]).toList)))
def ZbU.M (s : ByteArray) (r : Bool) : Prop :=
 Zk Tryz.prog 37 [.c none (.v (.string s))] [] (fun d b => d = .c none (.v (.bool r)) ∧ b = [])
theorem ZgJ (s : ByteArray) (r : Bool) (hF : ZbU s = some r) : ZbU.M s r := by
 unfold ZbU at hF
 unfold ZbU.M
 refine en Tryz.func37 ?_
 refine AWP.seq ?_
 refine ns ?_
 refine AWP.seq ?_
 obtain ⟨r1, hr1, hF⟩ := bind_some hF
 refine ns ?_
 refine e3 ?_
 refine st ?_
 refine cm (Zk.weak (rn []) (Zio s _ hr1) rfl (WS.mk (tc Zb) Zc)) ?_
 refine st ?_
 refine AWP.seq ?_
 refine AWP.seq ?_
 refine ns ?_
 refine nw ?_
 refine Zj hF (fun hc4 hF => ?_) (fun hc4 hF => ?_)
 ·refine AWP.seq ?_
  obtain ⟨r5, hr5, hF⟩ := bind_some hF
  refine ns ?_
  refine e3 ?_
  refine st ?_
  refine cm (Zk.weak (rn []) (Zdn r1.1 _ hr5) rfl (WS.mk (tc Zb) Zc)) ?_
  refine st ?_
  obtain rfl := Zh hF
  refine ns ?_
  refine Exists.intro [] ?_
  refine st ?_
  exact wx (WS.mk (tc Zb) Zc)
 ·refine nw ?_
  refine AWP.seq ?_
  obtain ⟨r6, hr6, hF⟩ := bind_some hF
  refine AWP.cutN (fun T => ∃ r, WS r T ⟨[(2, .c none (.v (.bool ((r6 == 1) && (!(s.toList == (ByteArray.mk #[102, 111, 114, 97, 108, 108]).toList))))))], []⟩) ?_ (fun T hw => ?_)
  ·refine ns ?_
   refine e3 ?_
   refine st ?_
   refine cm (Zk.weak (rn []) (Zdn s _ hr6) rfl (WS.mk (tc Zb) Zc)) ?_
   refine st ?_
   refine Zl true (fun hc7 => ?_) (fun hc7 => ?_)
   ·(conv => whnf)
    refine st ?_
    exact wx (WS.mk (Zd (Zp (web hc7)) Zb) Zc)
   ·(conv => whnf)
    refine st ?_
    exact wx (WS.mk (Zd (Zp (web hc7)) Zb) Zc)
  obtain ⟨r0, hw⟩ := hw
  (conv => whnf)
  refine AWP.weak r0 hw ?_
  obtain rfl := Zh hF
  refine ns ?_
  refine Exists.intro [] ?_
  refine st ?_
  exact wx (WS.mk (tc Zb) Zc)

mutual
def Zat (t : Za) : Option (Bool) :=
 ZaX 0 t t.fKids
 partial_fixpoint
def ZaX (i_3 : Nat) (t : Za) (ZfT : (List Za)) : Option (Bool) :=
 (match ZfT with
 | x39 :: ZBD =>
 Zat x39 >>= fun r42 =>
 if (!r42) = true then
 some false
 else
 ZaX (i_3 + 1) t ZBD
 | [] =>
 if (t.fOp == 1) = true then
 ZbU t.fName >>= fun r46 =>
 some ((r46 && (((t.fBound.fArgs.length : Nat) : Int) == 0)) && (((t.fKids.length : Nat) : Int) == 0))
 else
 if (t.fOp == 2) = true then
 Zcm t.fName >>= fun r51 =>
 some ((r51 && (((t.fBound.fArgs.length : Nat) : Int) == 0)) && (((t.fKids.length : Nat) : Int) == 0))
 else
 if (t.fOp == 3) = true then
 some (((t.fName.toList == (ByteArray.mk #[]).toList) && (((t.fBound.fArgs.length : Nat) : Int) == 0)) && (((t.fKids.length : Nat) : Int) == 2))
 else
 if (t.fOp == 4) = true then
 ZbU t.fName >>= fun r60 =>
 some (r60 && (((t.fKids.length : Nat) : Int) == 1))
 else
 some false)
 partial_fixpoint
end
def Zat.M (t : Za) (r : Bool) : Prop :=
 Zk Tryz.prog 56 [.agg [.v (.int .i64 t.fOp), .v (.string t.fName), .sl (t.fBound.fArgs.map Zi.cells), .sl (t.fKids.map Za.cells)]] [] (fun d b => d = .c none (.v (.bool r)) ∧ b = [])
def ZaX.M (i_3 : Nat) (t : Za) (ZfT : (List Za)) (r : Bool) : Prop :=
 ∀ ZhU : List Za, t.fKids = ZhU ++ ZfT → i_3 = ZhU.length → AWL Tryz.prog 79 (Code.sub (Zs Tryz.f56) [1, 0, 1, 0, 0]) (Code.cont Tryz.prog 79 (Zs Tryz.f56) [1, 0, 1, 0] (Zce tab Tryz.f56.results (Zch (.c none (.v (.bool r))) []))) ⟨[(1, .ptr 1 0), (3, .c none (.v (.int .i64 ((i_3 : Nat) : Int))))], [(1, [(none, .v (.int .i64 t.fOp)), (none, .v (.string t.fName)), (none, .sl (t.fBound.fArgs.map Zi.cells)), (none, .sl (t.fKids.map Za.cells))])]⟩
theorem ZkF : (∀ (t : Za), ∀ r, Zat t = some r → Zat.M t r) ∧ (∀ (i_3 : Nat) (t : Za) (ZfT : (List Za)), ∀ r, ZaX i_3 t ZfT = some r → ZaX.M i_3 t ZfT r) := by
 refine Zat.mutual_partial_correctness Zat.M ZaX.M ?_ ?_
 ·intro lazycref04_formed_l1' Zet t r hF
  unfold Zat.M
  refine en Tryz.func56 ?_
  refine AWP.seq ?_
  refine ns ?_
  refine AWP.seq ?_
  refine AWP.seq ?_
  refine ns ?_
  refine AWP.block ?_
  refine AWP.loop ?_
  refine AWL.weak (rn []) ?_ (Zet 0 t t.fKids _ hF ([]) rfl rfl)
  exact (WS.mk (tp (tc Zb)) (Ze rfl (cc (cc (cc (cc Zg)))) Zc))
 ·intro lazycref04_formed' lazycref04_formed_l1' ZkT Zet i_3 t ZfT r hF
  unfold ZaX.M
  intro ZhU ZpI Zpn
  refine AWL.step ?_
  refine AWP.seq ?_
  refine AWP.seq ?_
  refine ns ?_
  intro hlen38
  (try rw [List.length_map] at hlen38)
  (try rw [List.length_map])
  refine st ?_
  refine nw ?_
  refine ZK ZpI Zpn (fun x39 ZBD Zz9 ZFD ZD0 => ?_) (fun Zz9 => ?_)
  ·subst Zz9
   refine nw ?_
   refine AWP.seq ?_
   refine AWP.block ?_
   refine AWP.seq ?_
   obtain ⟨r42, ZFy, hF⟩ := bind_some hF
   refine nn ?_
   refine sr (Zag (f := Za.cells) (Za.cells_eq x39) ZFD) ?_
   refine st ?_
   refine e3 ?_
   refine st ?_
   refine cm (Zk.weak (rn []) (ZkT x39 _ ZFy) rfl (WS.mk (Zd (Zq (lc (lc (lc (lc Zn))))) Zb) Zc)) ?_
   refine st ?_
   refine nw ?_
   refine Zj hF (fun Zt6 hF => ?_) (fun Zt6 hF => ?_)
   ·refine AWP.seq ?_
    refine ns ?_
    obtain rfl := Zh hF
    refine ns ?_
    refine Exists.intro [] ?_
    refine st ?_
    exact wx (WS.mk (tc Zb) Zc)
   ·refine nw ?_
    refine ns ?_
    refine AWL.weak (rn []) ?_ (Zet (i_3 + 1) t ZBD _ hF (ZhU ++ [x39]) (by rw [ZpI]; simp) (by rw [Zpn]; simp))
    exact (WS.mk (tp (Zd (Zp (Zc3 (ZX hlen38 ZD0))) Zb)) (Ze rfl (cc (cc (cc (cc Zg)))) Zc))
  ·subst Zz9
   refine nw ?_
   refine AWP.seq ?_
   refine ns ?_
   intro hlen44
   (try rw [List.length_map] at hlen44)
   (try rw [List.length_map])
   refine st ?_
   refine AWP.seq ?_
   refine AWP.seq ?_
   refine ns ?_
   refine AWP.block ?_
   refine AWP.seq ?_
   refine ns ?_
   refine nw ?_
   refine Zj hF (fun ZAi hF => ?_) (fun ZAi hF => ?_)
   ·refine AWP.seq ?_
    obtain ⟨r46, ZEe, hF⟩ := bind_some hF
    refine AWP.cutN (fun T => ∃ r, WS r T ⟨[(2, .c none (.v (.bool ((r46 && (((t.fBound.fArgs.length : Nat) : Int) == 0)) && (((t.fKids.length : Nat) : Int) == 0)))))], []⟩) ?_ (fun T hw => ?_)
    ·refine ns ?_
     refine e3 ?_
     refine st ?_
     refine cm (Zk.weak (rn []) (ZgJ t.fName _ ZEe) rfl (WS.mk (tc Zb) Zc)) ?_
     refine st ?_
     refine Zl true (fun Zze => ?_) (fun Zze => ?_)
     ·(conv => whnf)
      refine st ?_
      refine Zl true (fun ZAk => ?_) (fun ZAk => ?_)
      ·(conv => whnf)
       refine st ?_
       intro hlen47
       (try rw [List.length_map] at hlen47)
       (try rw [List.length_map])
       refine st ?_
       exact wx (WS.mk (Zd (Zp (web (And.intro Zze ZAk))) Zb) Zc)
      ·(conv => whnf)
       refine st ?_
       exact wx (WS.mk (Zd (Zp (web (And.intro Zze ZAk))) Zb) Zc)
     ·(conv => whnf)
      refine st ?_
      exact wx (WS.mk (Zd (Zp (web Zze)) Zb) Zc)
    obtain ⟨r0, hw⟩ := hw
    (conv => whnf)
    refine AWP.weak r0 hw ?_
    obtain rfl := Zh hF
    refine ns ?_
    refine Exists.intro [] ?_
    refine st ?_
    exact wx (WS.mk (tc Zb) Zc)
   ·refine AWP.seq ?_
    refine ns ?_
    refine nw ?_
    refine Zj hF (fun ZFq hF => ?_) (fun ZFq hF => ?_)
    ·refine AWP.seq ?_
     obtain ⟨r51, ZEg, hF⟩ := bind_some hF
     refine AWP.cutN (fun T => ∃ r, WS r T ⟨[(2, .c none (.v (.bool ((r51 && (((t.fBound.fArgs.length : Nat) : Int) == 0)) && (((t.fKids.length : Nat) : Int) == 0)))))], []⟩) ?_ (fun T hw => ?_)
     ·refine ns ?_
      refine e3 ?_
      refine st ?_
      refine cm (Zk.weak (rn []) (ZkE t.fName _ ZEg) rfl (WS.mk (tc Zb) Zc)) ?_
      refine st ?_
      refine Zl true (fun Zy9 => ?_) (fun Zy9 => ?_)
      ·(conv => whnf)
       refine st ?_
       refine Zl true (fun ZiZ => ?_) (fun ZiZ => ?_)
       ·(conv => whnf)
        refine st ?_
        intro hlen52
        (try rw [List.length_map] at hlen52)
        (try rw [List.length_map])
        refine st ?_
        exact wx (WS.mk (Zd (Zp (web (And.intro Zy9 ZiZ))) Zb) Zc)
       ·(conv => whnf)
        refine st ?_
        exact wx (WS.mk (Zd (Zp (web (And.intro Zy9 ZiZ))) Zb) Zc)
      ·(conv => whnf)
       refine st ?_
       exact wx (WS.mk (Zd (Zp (web Zy9)) Zb) Zc)
     obtain ⟨r0, hw⟩ := hw
     (conv => whnf)
     refine AWP.weak r0 hw ?_
     obtain rfl := Zh hF
     refine ns ?_
     refine Exists.intro [] ?_
     refine st ?_
     exact wx (WS.mk (tc Zb) Zc)
    ·refine AWP.seq ?_
     refine ns ?_
     refine nw ?_
     refine Zj hF (fun ZAh hF => ?_) (fun ZAh hF => ?_)
     ·refine AWP.seq ?_
      refine AWP.cutN (fun T => ∃ r, WS r T ⟨[(2, .c none (.v (.bool (((t.fName.toList == (ByteArray.mk #[]).toList) && (((t.fBound.fArgs.length : Nat) : Int) == 0)) && (((t.fKids.length : Nat) : Int) == 2)))))], []⟩) ?_ (fun T hw => ?_)
      ·refine ns ?_
       refine Zl true (fun Zij => ?_) (fun Zij => ?_)
       ·(conv => whnf)
        refine st ?_
        refine Zl true (fun Zoa => ?_) (fun Zoa => ?_)
        ·(conv => whnf)
         refine st ?_
         intro hlen56
         (try rw [List.length_map] at hlen56)
         (try rw [List.length_map])
         refine st ?_
         exact wx (WS.mk (Zd (Zp (web (And.intro Zij Zoa))) Zb) Zc)
        ·(conv => whnf)
         refine st ?_
         exact wx (WS.mk (Zd (Zp (web (And.intro Zij Zoa))) Zb) Zc)
       ·(conv => whnf)
        refine st ?_
        exact wx (WS.mk (Zd (Zp (web Zij)) Zb) Zc)
      obtain ⟨r0, hw⟩ := hw
      (conv => whnf)
      refine AWP.weak r0 hw ?_
      obtain rfl := Zh hF
      refine ns ?_
      refine Exists.intro [] ?_
      refine st ?_
      exact wx (WS.mk (tc Zb) Zc)
     ·refine AWP.seq ?_
      refine ns ?_
      refine nw ?_
      refine Zj hF (fun ZtR hF => ?_) (fun ZtR hF => ?_)
      ·refine AWP.seq ?_
       obtain ⟨r60, ZAv, hF⟩ := bind_some hF
       refine AWP.cutN (fun T => ∃ r, WS r T ⟨[(2, .c none (.v (.bool (r60 && (((t.fKids.length : Nat) : Int) == 1)))))], []⟩) ?_ (fun T hw => ?_)
       ·refine ns ?_
        refine e3 ?_
        refine st ?_
        refine cm (Zk.weak (rn []) (ZgJ t.fName _ ZAv) rfl (WS.mk (tc Zb) Zc)) ?_
        refine st ?_
        refine Zl true (fun ZsK => ?_) (fun ZsK => ?_)
        ·(conv => whnf)
         refine st ?_
         intro hlen61
         (try rw [List.length_map] at hlen61)
         (try rw [List.length_map])
         refine st ?_
         exact wx (WS.mk (Zd (Zp (web ZsK)) Zb) Zc)
        ·(conv => whnf)
         refine st ?_
         exact wx (WS.mk (Zd (Zp (web ZsK)) Zb) Zc)
       obtain ⟨r0, hw⟩ := hw
       (conv => whnf)
       refine AWP.weak r0 hw ?_
       obtain rfl := Zh hF
       refine ns ?_
       refine Exists.intro [] ?_
       refine st ?_
       exact wx (WS.mk (tc Zb) Zc)
      ·refine nw ?_
       refine AWP.seq ?_
       refine ns ?_
       obtain rfl := Zh hF
       refine ns ?_
       refine Exists.intro [] ?_
       refine st ?_
       exact wx (WS.mk (tc Zb) Zc)
theorem ZkS : ∀ (t : Za), ∀ r, Zat t = some r → Zat.M t r := ZkF.1

mutual
def Zab (k : Zi) : Option (Int) :=
 Zar 0 0 k k.fArgs
 partial_fixpoint
def Zar (n_3 : Int) (i_4 : Nat) (k : Zi) (Zbk : (List Zi)) : Option (Int) :=
 (match Zbk with
 | x16 :: Zj1 =>
 Zab x16 >>= fun r19 =>
 Zar (if r19 > n_3 then r19 else n_3) (i_4 + 1) k Zj1
 | [] =>
 some (IntKind.i64.wrap (n_3 + 1)))
 partial_fixpoint
end
def Zab.M (k : Zi) (r : Int) : Prop :=
 Zk Tryz.prog 83 [.agg [.sl (k.fArgs.map Zi.cells)]] [] (fun d b => d = .c none (.v (.int .i64 r)) ∧ b = [])
def Zar.M (n_3 : Int) (i_4 : Nat) (k : Zi) (Zbk : (List Zi)) (r : Int) : Prop :=
 ∀ ZcQ : List Zi, k.fArgs = ZcQ ++ Zbk → i_4 = ZcQ.length → AWL Tryz.prog 22 (Code.sub (Zs Tryz.f83) [1, 1, 0, 1, 0, 0]) (Code.cont Tryz.prog 22 (Zs Tryz.f83) [1, 1, 0, 1, 0] (Zce tab Tryz.f83.results (Zch (.c none (.v (.int .i64 r))) []))) ⟨[(1, .ptr 1 0), (3, .c none (.v (.int .i64 n_3))), (4, .c none (.v (.int .i64 ((i_4 : Nat) : Int))))], [(1, [(none, .sl (k.fArgs.map Zi.cells))])]⟩
theorem ZiS : (∀ (k : Zi), ∀ r, Zab k = some r → Zab.M k r) ∧ (∀ (n_3 : Int) (i_4 : Nat) (k : Zi) (Zbk : (List Zi)), ∀ r, Zar n_3 i_4 k Zbk = some r → Zar.M n_3 i_4 k Zbk r) := by
 refine Zab.mutual_partial_correctness Zab.M Zar.M ?_ ?_
 ·intro lazycref04_KindDepth_l1' ZdV k r hF
  unfold Zab.M
  refine en Tryz.func83 ?_
  refine AWP.seq ?_
  refine ns ?_
  refine AWP.seq ?_
  refine ns ?_
  refine AWP.seq ?_
  refine AWP.seq ?_
  refine ns ?_
  refine AWP.block ?_
  refine AWP.loop ?_
  refine AWL.weak (rn []) ?_ (ZdV 0 0 k k.fArgs _ hF ([]) rfl rfl)
  exact (WS.mk (tp (tc (tc Zb))) (Ze rfl (cc Zg) Zc))
 ·intro lazycref04_KindDepth' lazycref04_KindDepth_l1' Zjp ZdV n_3 i_4 k Zbk r hF
  unfold Zar.M
  intro ZcQ Zgw Zgo
  refine AWL.step ?_
  refine AWP.seq ?_
  refine AWP.seq ?_
  refine ns ?_
  intro hlen15
  (try rw [List.length_map] at hlen15)
  (try rw [List.length_map])
  refine st ?_
  refine nw ?_
  refine ZK Zgw Zgo (fun x16 Zj1 Zj6 ZqS Zsq => ?_) (fun Zj6 => ?_)
  ·subst Zj6
   refine nw ?_
   refine AWP.seq ?_
   refine AWP.block ?_
   obtain ⟨r19, Zsh, hF⟩ := bind_some hF
   refine nn ?_
   refine sr (Zag (f := Zi.cells) (Zi.cells_eq x16) ZqS) ?_
   refine st ?_
   refine e3 ?_
   refine st ?_
   refine cm (Zk.weak (rn []) (Zjp x16 _ Zsh) rfl (WS.mk (Zd (Zq (lc Zn)) Zb) Zc)) ?_
   refine st ?_
   refine ns ?_
   refine AWL.weak (rn []) ?_ (ZdV (if r19 > n_3 then r19 else n_3) (i_4 + 1) k Zj1 _ hF (ZcQ ++ [x16]) (by rw [Zgw]; simp) (by rw [Zgo]; simp))
   exact (WS.mk (tp (tc (Zd (Zp (Zc3 (ZX hlen15 Zsq))) Zb))) (Ze rfl (cc Zg) Zc))
  ·subst Zj6
   refine nw ?_
   refine AWP.seq ?_
   refine ns ?_
   obtain rfl := Zh hF
   refine ns ?_
   refine Exists.intro [] ?_
   refine st ?_
   exact wx (WS.mk (tc Zb) Zc)
theorem Zjd : ∀ (k : Zi), ∀ r, Zab k = some r → Zab.M k r := ZiS.1

mutual
def Zaf (k : Zi) : Option (Int) :=
 Zax 1 0 k k.fArgs
 partial_fixpoint
def Zax (n_3 : Int) (i_4 : Nat) (k : Zi) (Zbk : (List Zi)) : Option (Int) :=
 (match Zbk with
 | x16 :: Zj1 =>
 Zaf x16 >>= fun r19 =>
 Zax (IntKind.i64.wrap (n_3 + r19)) (i_4 + 1) k Zj1
 | [] =>
 some n_3)
 partial_fixpoint
end
def Zaf.M (k : Zi) (r : Int) : Prop :=
 Zk Tryz.prog 82 [.agg [.sl (k.fArgs.map Zi.cells)]] [] (fun d b => d = .c none (.v (.int .i64 r)) ∧ b = [])
def Zax.M (n_3 : Int) (i_4 : Nat) (k : Zi) (Zbk : (List Zi)) (r : Int) : Prop :=
 ∀ ZcQ : List Zi, k.fArgs = ZcQ ++ Zbk → i_4 = ZcQ.length → AWL Tryz.prog 21 (Code.sub (Zs Tryz.f82) [1, 1, 0, 1, 0, 0]) (Code.cont Tryz.prog 21 (Zs Tryz.f82) [1, 1, 0, 1, 0] (Zce tab Tryz.f82.results (Zch (.c none (.v (.int .i64 r))) []))) ⟨[(1, .ptr 1 0), (3, .c none (.v (.int .i64 n_3))), (4, .c none (.v (.int .i64 ((i_4 : Nat) : Int))))], [(1, [(none, .sl (k.fArgs.map Zi.cells))])]⟩
theorem Zju : (∀ (k : Zi), ∀ r, Zaf k = some r → Zaf.M k r) ∧ (∀ (n_3 : Int) (i_4 : Nat) (k : Zi) (Zbk : (List Zi)), ∀ r, Zax n_3 i_4 k Zbk = some r → Zax.M n_3 i_4 k Zbk r) := by
 refine Zaf.mutual_partial_correctness Zaf.M Zax.M ?_ ?_
 ·intro lazycref04_KindSize_l1' Zd4 k r hF
  unfold Zaf.M
  refine en Tryz.func82 ?_
  refine AWP.seq ?_
  refine ns ?_
  refine AWP.seq ?_
  refine ns ?_
  refine AWP.seq ?_
  refine AWP.seq ?_
  refine ns ?_
  refine AWP.block ?_
  refine AWP.loop ?_
  refine AWL.weak (rn []) ?_ (Zd4 1 0 k k.fArgs _ hF ([]) rfl rfl)
  exact (WS.mk (tp (tc (tc Zb))) (Ze rfl (cc Zg) Zc))
 ·intro lazycref04_KindSize' lazycref04_KindSize_l1' ZjW Zd4 n_3 i_4 k Zbk r hF
  unfold Zax.M
  intro ZcQ Zgw Zgo
  refine AWL.step ?_
  refine AWP.seq ?_
  refine AWP.seq ?_
  refine ns ?_
  intro hlen15
  (try rw [List.length_map] at hlen15)
  (try rw [List.length_map])
  refine st ?_
  refine nw ?_
  refine ZK Zgw Zgo (fun x16 Zj1 Zj6 ZqS Zsq => ?_) (fun Zj6 => ?_)
  ·subst Zj6
   refine nw ?_
   refine AWP.seq ?_
   refine AWP.block ?_
   obtain ⟨r19, Zsh, hF⟩ := bind_some hF
   refine nn ?_
   refine sr (Zag (f := Zi.cells) (Zi.cells_eq x16) ZqS) ?_
   refine st ?_
   refine e3 ?_
   refine st ?_
   refine cm (Zk.weak (rn []) (ZjW x16 _ Zsh) rfl (WS.mk (Zd (Zq (lc Zn)) Zb) Zc)) ?_
   refine st ?_
   refine ns ?_
   refine AWL.weak (rn []) ?_ (Zd4 (IntKind.i64.wrap (n_3 + r19)) (i_4 + 1) k Zj1 _ hF (ZcQ ++ [x16]) (by rw [Zgw]; simp) (by rw [Zgo]; simp))
   exact (WS.mk (tp (tc (Zd (Zp (Zc3 (ZX hlen15 Zsq))) Zb))) (Ze rfl (cc Zg) Zc))
  ·subst Zj6
   refine nw ?_
   refine AWP.seq ?_
   refine ns ?_
   obtain rfl := Zh hF
   refine ns ?_
   refine Exists.intro [] ?_
   refine st ?_
   exact wx (WS.mk (tc Zb) Zc)
theorem Zj5 : ∀ (k : Zi), ∀ r, Zaf k = some r → Zaf.M k r := Zju.1

mutual
def ZaD (t : Za) : Option (Int × Int) :=
 Zaf t.fBound >>= fun r3 =>
 Zab t.fBound >>= fun r4 =>
 Zbe r3 r4 0 t t.fKids
 partial_fixpoint
def Zbe (Zdg : Int) (Zcc : Int) (i_6 : Nat) (t : Za) (Zmv : (List Za)) : Option (Int × Int) :=
 (match Zmv with
 | x20 :: ZA3 =>
 ZaD x20 >>= fun r23 =>
 Zbe (if r23.1 > Zdg then r23.1 else Zdg) (if r23.2 > Zcc then r23.2 else Zcc) (i_6 + 1) t ZA3
 | [] =>
 some (Zdg, Zcc))
 partial_fixpoint
end
def ZaD.M (t : Za) (r : Int × Int) : Prop :=
 Zk Tryz.prog 57 [.agg [.v (.int .i64 t.fOp), .v (.string t.fName), .sl (t.fBound.fArgs.map Zi.cells), .sl (t.fKids.map Za.cells)]] [] (fun d b => d = .tup [.c (.v (.int .i64 r.1)), .c (.v (.int .i64 r.2))] ∧ b = [])
def Zbe.M (Zdg : Int) (Zcc : Int) (i_6 : Nat) (t : Za) (Zmv : (List Za)) (r : Int × Int) : Prop :=
 ∀ ZoY : List Za, t.fKids = ZoY ++ Zmv → i_6 = ZoY.length → AWL Tryz.prog 39 (Code.sub (Zs Tryz.f57) [1, 1, 0, 1, 0, 0]) (Code.cont Tryz.prog 39 (Zs Tryz.f57) [1, 1, 0, 1, 0] (Zce tab Tryz.f57.results (Zch (.tup [.c (.v (.int .i64 r.1)), .c (.v (.int .i64 r.2))]) []))) ⟨[(1, .ptr 1 0), (4, .c none (.v (.int .i64 Zdg))), (5, .c none (.v (.int .i64 Zcc))), (6, .c none (.v (.int .i64 ((i_6 : Nat) : Int))))], [(1, [(none, .v (.int .i64 t.fOp)), (none, .v (.string t.fName)), (none, .sl (t.fBound.fArgs.map Zi.cells)), (none, .sl (t.fKids.map Za.cells))])]⟩
theorem Zls : (∀ (t : Za), ∀ r, ZaD t = some r → ZaD.M t r) ∧ (∀ (Zdg : Int) (Zcc : Int) (i_6 : Nat) (t : Za) (Zmv : (List Za)), ∀ r, Zbe Zdg Zcc i_6 t Zmv = some r → Zbe.M Zdg Zcc i_6 t Zmv r) := by
 refine ZaD.mutual_partial_correctness ZaD.M Zbe.M ?_ ?_
 ·intro lazycref04_kinds_l1' ZeL t r hF
  unfold ZaD.M
  refine en Tryz.func57 ?_
  refine AWP.seq ?_
  refine ns ?_
  refine AWP.seq ?_
  obtain ⟨r3, hr3, hF⟩ := bind_some hF
  obtain ⟨r4, hr4, hF⟩ := bind_some hF
  refine nn ?_
  refine Or.inl (Or.inr (Exists.intro [3, 4] (Exists.intro [[12, 13], [13]] (Exists.intro [1] (Exists.intro [1, 12, 13] (Exists.intro [12, 13] (Exists.intro [0, 1, 2, 5, 6, 7] (And.intro (by decide +kernel) ?_))))))))
  refine dp ?_
  refine dp ?_
  refine st ?_
  refine e3 ?_
  refine st ?_
  refine cm (Zk.weak (rn []) (Zj5 t.fBound _ hr3) rfl (WS.mk (Zd (Zq (lc Zn)) Zb) Zc)) ?_
  refine st ?_
  refine e3 ?_
  refine st ?_
  refine cm (Zk.weak (rn []) (Zjd t.fBound _ hr4) rfl (WS.mk (Zd (Zq (lc Zn)) Zb) Zc)) ?_
  refine st ?_
  refine AWP.seq ?_
  refine AWP.seq ?_
  refine ns ?_
  refine AWP.block ?_
  refine AWP.loop ?_
  refine AWL.weak (rn []) ?_ (ZeL r3 r4 0 t t.fKids _ hF ([]) rfl rfl)
  exact (WS.mk (tp (tc (tc (tc Zb)))) (Ze rfl (cc (cc (cc (cc Zg)))) Zc))
 ·intro lazycref04_kinds' lazycref04_kinds_l1' ZlN ZeL Zdg Zcc i_6 t Zmv r hF
  unfold Zbe.M
  intro ZoY Zx8 ZyR
  refine AWL.step ?_
  refine AWP.seq ?_
  refine AWP.seq ?_
  refine ns ?_
  intro hlen19
  (try rw [List.length_map] at hlen19)
  (try rw [List.length_map])
  refine st ?_
  refine nw ?_
  refine ZK Zx8 ZyR (fun x20 ZA3 ZBk ZE6 ZEm => ?_) (fun ZBk => ?_)
  ·subst ZBk
   refine nw ?_
   refine AWP.seq ?_
   refine AWP.block ?_
   refine AWP.seq ?_
   obtain ⟨r23, ZyT, hF⟩ := bind_some hF
   refine nn ?_
   refine sr (Zag (f := Za.cells) (Za.cells_eq x20) ZE6) ?_
   refine st ?_
   refine e3 ?_
   refine st ?_
   refine cm (Zk.weak (rn []) (ZlN x20 _ ZyT) rfl (WS.mk (Zd (Zq (lc (lc (lc (lc Zn))))) Zb) Zc)) ?_
   refine st ?_
   refine AWP.seq ?_
   refine ns ?_
   refine ns ?_
   refine ns ?_
   refine AWL.weak (rn []) ?_ (ZeL (if r23.1 > Zdg then r23.1 else Zdg) (if r23.2 > Zcc then r23.2 else Zcc) (i_6 + 1) t ZA3 _ hF (ZoY ++ [x20]) (by rw [Zx8]; simp) (by rw [ZyR]; simp))
   exact (WS.mk (tp (tc (tc (Zd (Zp (Zc3 (ZX hlen19 ZEm))) Zb)))) (Ze rfl (cc (cc (cc (cc Zg)))) Zc))
  ·subst ZBk
   refine nw ?_
   refine AWP.seq ?_
   refine ns ?_
   obtain rfl := Zh hF
   refine ns ?_
   refine Exists.intro [] ?_
   refine st ?_
   exact wx (WS.mk (Zd (Zcg (ZbV (WE.refl _) (ZbV (WE.refl _) Zck))) Zb) Zc)
theorem Zl3 : ∀ (t : Za), ∀ r, ZaD t = some r → ZaD.M t r := Zls.1

def Zbg (t : Za) : Option (Int) :=
 Zat t >>= fun r3 =>
 if (!r3) = true then
 some 1
 else
 ZaD t >>= fun r5 =>
 ZaE t >>= fun r8 =>
 if ((decide (r8 > 20000)) || (decide (r5.1 > 20000))) = true then
 some 3
 else
 Zau t >>= fun r11 =>
 if ((decide (r11 > 100)) || (decide (r5.2 > 100))) = true then
 some 4
 else
 some 0
def Zbg.M (t : Za) (r : Int) : Prop :=
 Zk Tryz.prog 36 [.agg [.v (.int .i64 t.fOp), .v (.string t.fName), .sl (t.fBound.fArgs.map Zi.cells), .sl (t.fKids.map Za.cells)]] [] (fun d b => d = .c none (.v (.int .i64 r)) ∧ b = [])
theorem Zfx (t : Za) (r : Int) (hF : Zbg t = some r) : Zbg.M t r := by
 unfold Zbg at hF
 unfold Zbg.M
 refine en Tryz.func36 ?_
 refine AWP.seq ?_
 refine ns ?_
 refine AWP.seq ?_
 refine AWP.seq ?_
 obtain ⟨r3, hr3, hF⟩ := bind_some hF
 refine ns ?_
 refine e3 ?_
 refine st ?_
 refine cm (Zk.weak (rn []) (ZkS t _ hr3) rfl (WS.mk (Zd (Zq (lc (lc (lc (lc Zn))))) Zb) Zc)) ?_
 refine st ?_
 refine nw ?_
 refine Zj hF (fun hc4 hF => ?_) (fun hc4 hF => ?_)
 ·refine AWP.seq ?_
  refine ns ?_
  obtain rfl := Zh hF
  refine ns ?_
  refine Exists.intro [] ?_
  refine st ?_
  exact wx (WS.mk (tc Zb) Zc)
 ·refine nw ?_
  refine AWP.seq ?_
  obtain ⟨r5, hr5, hF⟩ := bind_some hF
  refine ns ?_
  refine e3 ?_
  refine st ?_
  refine cm (Zk.weak (rn []) (Zl3 t _ hr5) rfl (WS.mk (Zd (Zq (lc (lc (lc (lc Zn))))) Zb) Zc)) ?_
  refine st ?_
  refine AWP.seq ?_
  refine AWP.seq ?_
  obtain ⟨r8, hr8, hF⟩ := bind_some hF
  refine AWP.cutN (fun T => ∃ r, WS r T ⟨[(1, .ptr 1 0), (4, .c none (.v (.int .i64 r5.2))), (19, .c none (.v (.bool ((decide (r8 > 20000)) || (decide (r5.1 > 20000))))))], [(1, [(none, .v (.int .i64 t.fOp)), (none, .v (.string t.fName)), (none, .sl (t.fBound.fArgs.map Zi.cells)), (none, .sl (t.fKids.map Za.cells))])]⟩) ?_ (fun T hw => ?_)
  ·refine ns ?_
   refine e3 ?_
   refine st ?_
   refine cm (Zk.weak (rn []) (Zil t _ hr8) rfl (WS.mk (Zd (Zq (lc (lc (lc (lc Zn))))) Zb) Zc)) ?_
   refine st ?_
   refine Zl false (fun hc9 => ?_) (fun hc9 => ?_)
   ·(conv => whnf)
    refine st ?_
    exact wx (WS.mk (tp (tc (Zd (Zp (web hc9)) Zb))) (Ze rfl (cc (cc (cc (cc Zg)))) Zc))
   ·(conv => whnf)
    refine st ?_
    exact wx (WS.mk (tp (tc (Zd (Zp (web hc9)) Zb))) (Ze rfl (cc (cc (cc (cc Zg)))) Zc))
  obtain ⟨r0, hw⟩ := hw
  (conv => whnf)
  refine AWP.weak r0 hw ?_
  refine nw ?_
  refine Zj hF (fun Zd5 hF => ?_) (fun Zd5 hF => ?_)
  ·refine AWP.seq ?_
   refine ns ?_
   obtain rfl := Zh hF
   refine ns ?_
   refine Exists.intro [] ?_
   refine st ?_
   exact wx (WS.mk (tc Zb) Zc)
  ·refine nw ?_
   refine AWP.seq ?_
   refine AWP.seq ?_
   obtain ⟨r11, ZrK, hF⟩ := bind_some hF
   refine AWP.cutN (fun T => ∃ r, WS r T ⟨[(26, .c none (.v (.bool ((decide (r11 > 100)) || (decide (r5.2 > 100))))))], []⟩) ?_ (fun T hw => ?_)
   ·refine ns ?_
    refine e3 ?_
    refine st ?_
    refine cm (Zk.weak (rn []) (ZhA t _ ZrK) rfl (WS.mk (Zd (Zq (lc (lc (lc (lc Zn))))) Zb) Zc)) ?_
    refine st ?_
    refine Zl false (fun ZdO => ?_) (fun ZdO => ?_)
    ·(conv => whnf)
     refine st ?_
     exact wx (WS.mk (Zd (Zp (web ZdO)) Zb) Zc)
    ·(conv => whnf)
     refine st ?_
     exact wx (WS.mk (Zd (Zp (web ZdO)) Zb) Zc)
   obtain ⟨r0, hw⟩ := hw
   (conv => whnf)
   refine AWP.weak r0 hw ?_
   refine nw ?_
   refine Zj hF (fun Zbp hF => ?_) (fun Zbp hF => ?_)
   ·refine AWP.seq ?_
    refine ns ?_
    obtain rfl := Zh hF
    refine ns ?_
    refine Exists.intro [] ?_
    refine st ?_
    exact wx (WS.mk (tc Zb) Zc)
   ·refine nw ?_
    refine AWP.seq ?_
    refine ns ?_
    obtain rfl := Zh hF
    refine ns ?_
    refine Exists.intro [] ?_
    refine st ?_
    exact wx (WS.mk (tc Zb) Zc)

mutual
def ZaC (t : Za) : Option (Bool) :=
 (if (t.fOp == 4) = true then some true else ZQ t.fKids >>= fun r1 =>
 some r1) >>= fun c2 =>
 some c2
 partial_fixpoint
def ZQ (s : (List Za)) : Option (Bool) :=
 Z0 s >>= fun r1 =>
 some (decide (r1 ≥ 0))
 partial_fixpoint
def Z0 (s : (List Za)) : Option (Int) :=
 Zy s 0 s
 partial_fixpoint
def Zy (s : (List Za)) (x_8 : Nat) (Zay : (List Za)) : Option (Int) :=
 (match Zay with
 | x13 :: ZtT =>
 ZaC x13 >>= fun r16 =>
 if r16 = true then
 some ((x_8 : Nat) : Int)
 else
 Zy s (x_8 + 1) ZtT
 | [] =>
 some (-1))
 partial_fixpoint
end
def ZaC.M (t : Za) (r : Bool) : Prop :=
 Zk Tryz.prog 51 [.agg [.v (.int .i64 t.fOp), .v (.string t.fName), .sl (t.fBound.fArgs.map Zi.cells), .sl (t.fKids.map Za.cells)]] [] (fun d b => d = .c none (.v (.bool r)) ∧ b = [])
def ZQ.M (s : (List Za)) (r : Bool) : Prop :=
 Zk Tryz.prog 79 [.c none (.sl (s.map Za.cells)), .c none (.v (.func (.func 51) #[] #[]))] [] (fun d b => d = .c none (.v (.bool r)) ∧ b = [])
def Z0.M (s : (List Za)) (r : Int) : Prop :=
 Zk Tryz.prog 104 [.c none (.sl (s.map Za.cells)), .c none (.v (.func (.func 51) #[] #[]))] [] (fun d b => d = .c none (.v (.int .i64 r)) ∧ b = [])
def Zy.M (s : (List Za)) (x_8 : Nat) (Zay : (List Za)) (r : Int) : Prop :=
 ∀ ZcP : List Za, s = ZcP ++ Zay → x_8 = ZcP.length → s.length ≤ maxLen → AWL Tryz.prog 19 (Code.sub (Zs Tryz.f104) [1, 0, 1, 0, 0]) (Code.cont Tryz.prog 19 (Zs Tryz.f104) [1, 0, 1, 0] (Zce tab Tryz.f104.results (Zch (.c none (.v (.int .i64 r))) []))) ⟨[(0, .c none (.sl (s.map Za.cells))), (1, .c none (.v (.func (.func 51) #[] #[]))), (7, .c none (.v (.int .i64 ((s.length : Nat) : Int)))), (8, .c none (.v (.int .i64 ((x_8 : Nat) : Int))))], []⟩
theorem Zk1 : (∀ (t : Za), ∀ r, ZaC t = some r → ZaC.M t r) ∧ (∀ (s : (List Za)), ∀ r, ZQ s = some r → ZQ.M s r) ∧ (∀ (s : (List Za)), ∀ r, Z0 s = some r → Z0.M s r) ∧ (∀ (s : (List Za)) (x_8 : Nat) (Zay : (List Za)), ∀ r, Zy s x_8 Zay = some r → Zy.M s x_8 Zay r) := by
 refine ZaC.mutual_partial_correctness ZaC.M ZQ.M Z0.M Zy.M ?_ ?_ ?_ ?_
 ·intro slices_ContainsFunc_Type_unify_quantified' Zex t r hF
  unfold ZaC.M
  refine en Tryz.func51 ?_
  refine AWP.seq ?_
  refine ns ?_
  refine AWP.seq ?_
  obtain ⟨c2, hc2, hF⟩ := bind_some hF
  refine AWP.cutN (fun T => ∃ r, WS r T ⟨[(2, .c none (.v (.bool c2)))], []⟩) ?_ (fun T hw => ?_)
  ·refine ns ?_
   refine Zl false (fun hc3 => ?_) (fun hc3 => ?_)
   ·have hc2 := ift hc3 hc2
    (conv => whnf)
    obtain rfl := Zh hc2
    refine st ?_
    exact wx (WS.mk (Zd (Zp (web hc3)) Zb) Zc)
   ·have hc2 := ife hc3 hc2
    obtain ⟨r1, hr1, hc2⟩ := bind_some hc2
    (conv => whnf)
    refine st ?_
    refine e3 ?_
    refine st ?_
    refine cm (Zk.weak (rn []) (Zex t.fKids _ hr1) rfl (WS.mk (tc (tc Zb)) Zc)) ?_
    refine st ?_
    obtain rfl := Zh hc2
    refine st ?_
    exact wx (WS.mk (Zd (Zp (web hc3)) Zb) Zc)
  obtain ⟨r0, hw⟩ := hw
  (conv => whnf)
  refine AWP.weak r0 hw ?_
  obtain rfl := Zh hF
  refine ns ?_
  refine Exists.intro [] ?_
  refine st ?_
  exact wx (WS.mk (tc Zb) Zc)
 ·intro slices_IndexFunc_Type_unify_quantified' ZeM s r hF
  unfold ZQ.M
  refine en Tryz.func79 ?_
  refine AWP.seq ?_
  refine ns ?_
  refine AWP.seq ?_
  obtain ⟨r1, hr1, hF⟩ := bind_some hF
  refine ns ?_
  refine e3 ?_
  refine st ?_
  refine cm (Zk.weak (rn []) (ZeM s _ hr1) rfl (WS.mk (tc (tc Zb)) Zc)) ?_
  refine st ?_
  obtain rfl := Zh hF
  refine ns ?_
  refine Exists.intro [] ?_
  refine st ?_
  exact wx (WS.mk (tc Zb) Zc)
 ·intro slices_IndexFunc_Type_unify_quantified_l1' ZbF s r hF
  unfold Z0.M
  refine en Tryz.func104 ?_
  refine AWP.seq ?_
  refine ns ?_
  refine AWP.seq ?_
  refine AWP.seq ?_
  refine ns ?_
  intro hlen1
  (try rw [List.length_map] at hlen1)
  (try rw [List.length_map])
  refine st ?_
  refine AWP.block ?_
  refine AWP.loop ?_
  refine AWL.weak (rn []) ?_ (ZbF s 0 s _ hF ([]) rfl rfl hlen1)
  exact (WS.mk (tc (tc (tc (tc Zb)))) Zc)
 ·intro unify_quantified' slices_IndexFunc_Type_unify_quantified_l1' ZlU ZbF s x_8 Zay r hF
  unfold Zy.M
  intro ZcP Zgx Zgk hlen1
  refine AWL.step ?_
  refine AWP.seq ?_
  refine ns ?_
  refine AWP.seq ?_
  refine nw ?_
  refine ZK Zgx Zgk (fun x13 ZtT Zui Zyt ZBR => ?_) (fun Zui => ?_)
  ·subst Zui
   refine nw ?_
   refine AWP.seq ?_
   refine AWP.block ?_
   refine AWP.seq ?_
   refine ns ?_
   refine AWP.seq ?_
   obtain ⟨r16, ZyL, hF⟩ := bind_some hF
   refine nn ?_
   refine sr (Zag (f := Za.cells) (Za.cells_eq x13) Zyt) ?_
   refine st ?_
   refine e3 ?_
   refine st ?_
   refine cm (Zk.weak (rn []) (ZlU x13 _ ZyL) rfl (WS.mk (Zd (Zq (lc (lc (lc (lc Zn))))) Zb) Zc)) ?_
   refine st ?_
   refine nw ?_
   refine Zj hF (fun Zdd hF => ?_) (fun Zdd hF => ?_)
   ·refine AWP.seq ?_
    refine ns ?_
    obtain rfl := Zh hF
    refine ns ?_
    refine Exists.intro [] ?_
    refine st ?_
    exact wx (WS.mk (tc Zb) Zc)
   ·refine nw ?_
    refine ns ?_
    refine AWL.weak (rn []) ?_ (ZbF s (x_8 + 1) ZtT _ hF (ZcP ++ [x13]) (by rw [Zgx]; simp) (by rw [Zgk]; simp) hlen1)
    exact (WS.mk (tc (tc (tc (Zd (Zp (Zc3 (ZX hlen1 ZBR))) Zb)))) Zc)
  ·subst Zui
   refine nw ?_
   refine AWP.seq ?_
   refine ns ?_
   obtain rfl := Zh hF
   refine ns ?_
   refine Exists.intro [] ?_
   refine st ?_
   exact wx (WS.mk (tc Zb) Zc)
theorem ZlW : ∀ (t : Za), ∀ r, ZaC t = some r → ZaC.M t r := Zk1.1

def Za8 (t : Za) : Option (Bool) :=
 Zbm t >>= fun r1 =>
 (if (r1 == 0) = true then ZaC t >>= fun r2 =>
 some (!r2) else some false) >>= fun c3 =>
 some c3
def Za8.M (t : Za) (r : Bool) : Prop :=
 Zk Tryz.prog 31 [.agg [.v (.int .i64 t.fOp), .v (.string t.fName), .sl (t.fBound.fArgs.map Zi.cells), .sl (t.fKids.map Za.cells)]] [] (fun d b => d = .c none (.v (.bool r)) ∧ b = [])
theorem Zd8 (t : Za) (r : Bool) (hF : Za8 t = some r) : Za8.M t r := by
 unfold Za8 at hF
 unfold Za8.M
 refine en Tryz.func31 ?_
 refine AWP.seq ?_
 refine ns ?_
 refine AWP.seq ?_
 obtain ⟨r1, hr1, hF⟩ := bind_some hF
 obtain ⟨c3, hc3, hF⟩ := bind_some hF
 refine AWP.cutN (fun T => ∃ r, WS r T ⟨[(2, .c none (.v (.bool c3)))], []⟩) ?_ (fun T hw => ?_)
 ·refine ns ?_
  refine e3 ?_
  refine st ?_
  refine cm (Zk.weak (rn []) (Zdr t _ hr1) rfl (WS.mk (Zd (Zq (lc (lc (lc (lc Zn))))) Zb) Zc)) ?_
  refine st ?_
  refine Zl true (fun hc4 => ?_) (fun hc4 => ?_)
  ·have hc3 := ift hc4 hc3
   obtain ⟨r2, hr2, hc3⟩ := bind_some hc3
   (conv => whnf)
   refine st ?_
   refine e3 ?_
   refine st ?_
   refine cm (Zk.weak (rn []) (ZlW t _ hr2) rfl (WS.mk (Zd (Zq (lc (lc (lc (lc Zn))))) Zb) Zc)) ?_
   refine st ?_
   obtain rfl := Zh hc3
   refine st ?_
   exact wx (WS.mk (Zd (Zp (web hc4)) Zb) Zc)
  ·have hc3 := ife hc4 hc3
   (conv => whnf)
   obtain rfl := Zh hc3
   refine st ?_
   exact wx (WS.mk (Zd (Zp (web hc4)) Zb) Zc)
 obtain ⟨r0, hw⟩ := hw
 (conv => whnf)
 refine AWP.weak r0 hw ?_
 obtain rfl := Zh hF
 refine ns ?_
 refine Exists.intro [] ?_
 refine st ?_
 exact wx (WS.mk (tc Zb) Zc)

mutual
def Z2 (t : Za) : Option (Bool) :=
 Zak 0 t t.fKids
 partial_fixpoint
def Zak (i_3 : Nat) (t : Za) (ZfT : (List Za)) : Option (Bool) :=
 (match ZfT with
 | x18 :: ZAe =>
 Z2 x18 >>= fun r21 =>
 if r21 = true then
 some true
 else
 Zak (i_3 + 1) t ZAe
 | [] =>
 some (t.fOp == 4))
 partial_fixpoint
end
def Z2.M (t : Za) (r : Bool) : Prop :=
 Zk Tryz.prog 42 [.agg [.v (.int .i64 t.fOp), .v (.string t.fName), .sl (t.fBound.fArgs.map Zi.cells), .sl (t.fKids.map Za.cells)]] [] (fun d b => d = .c none (.v (.bool r)) ∧ b = [])
def Zak.M (i_3 : Nat) (t : Za) (ZfT : (List Za)) (r : Bool) : Prop :=
 ∀ ZhU : List Za, t.fKids = ZhU ++ ZfT → i_3 = ZhU.length → AWL Tryz.prog 20 (Code.sub (Zs Tryz.f42) [1, 0, 1, 0, 0]) (Code.cont Tryz.prog 20 (Zs Tryz.f42) [1, 0, 1, 0] (Zce tab Tryz.f42.results (Zch (.c none (.v (.bool r))) []))) ⟨[(1, .ptr 1 0), (3, .c none (.v (.int .i64 ((i_3 : Nat) : Int))))], [(1, [(none, .v (.int .i64 t.fOp)), (none, .v (.string t.fName)), (none, .sl (t.fBound.fArgs.map Zi.cells)), (none, .sl (t.fKids.map Za.cells))])]⟩
theorem Ziu : (∀ (t : Za), ∀ r, Z2 t = some r → Z2.M t r) ∧ (∀ (i_3 : Nat) (t : Za) (ZfT : (List Za)), ∀ r, Zak i_3 t ZfT = some r → Zak.M i_3 t ZfT r) := by
 refine Z2.mutual_partial_correctness Z2.M Zak.M ?_ ?_
 ·intro lazycref18_quantified_l1' ZdI t r hF
  unfold Z2.M
  refine en Tryz.func42 ?_
  refine AWP.seq ?_
  refine ns ?_
  refine AWP.seq ?_
  refine AWP.seq ?_
  refine ns ?_
  refine AWP.block ?_
  refine AWP.loop ?_
  refine AWL.weak (rn []) ?_ (ZdI 0 t t.fKids _ hF ([]) rfl rfl)
  exact (WS.mk (tp (tc Zb)) (Ze rfl (cc (cc (cc (cc Zg)))) Zc))
 ·intro lazycref18_quantified' lazycref18_quantified_l1' Zi3 ZdI i_3 t ZfT r hF
  unfold Zak.M
  intro ZhU ZpI Zpn
  refine AWL.step ?_
  refine AWP.seq ?_
  refine AWP.seq ?_
  refine ns ?_
  intro hlen17
  (try rw [List.length_map] at hlen17)
  (try rw [List.length_map])
  refine st ?_
  refine nw ?_
  refine ZK ZpI Zpn (fun x18 ZAe ZAg ZFr ZEo => ?_) (fun ZAg => ?_)
  ·subst ZAg
   refine nw ?_
   refine AWP.seq ?_
   refine AWP.block ?_
   refine AWP.seq ?_
   obtain ⟨r21, ZAY, hF⟩ := bind_some hF
   refine nn ?_
   refine sr (Zag (f := Za.cells) (Za.cells_eq x18) ZFr) ?_
   refine st ?_
   refine e3 ?_
   refine st ?_
   refine cm (Zk.weak (rn []) (Zi3 x18 _ ZAY) rfl (WS.mk (Zd (Zq (lc (lc (lc (lc Zn))))) Zb) Zc)) ?_
   refine st ?_
   refine nw ?_
   refine Zj hF (fun ZgV hF => ?_) (fun ZgV hF => ?_)
   ·refine AWP.seq ?_
    refine ns ?_
    obtain rfl := Zh hF
    refine ns ?_
    refine Exists.intro [] ?_
    refine st ?_
    exact wx (WS.mk (tc Zb) Zc)
   ·refine nw ?_
    refine ns ?_
    refine AWL.weak (rn []) ?_ (ZdI (i_3 + 1) t ZAe _ hF (ZhU ++ [x18]) (by rw [ZpI]; simp) (by rw [Zpn]; simp))
    exact (WS.mk (tp (Zd (Zp (Zc3 (ZX hlen17 ZEo))) Zb)) (Ze rfl (cc (cc (cc (cc Zg)))) Zc))
  ·subst ZAg
   refine nw ?_
   refine AWP.seq ?_
   refine ns ?_
   obtain rfl := Zh hF
   refine ns ?_
   refine Exists.intro [] ?_
   refine st ?_
   exact wx (WS.mk (tc Zb) Zc)
theorem Zi4 : ∀ (t : Za), ∀ r, Z2 t = some r → Z2.M t r := Ziu.1

def Zal (t : Za) : Option (Bool) :=
 Zbg t >>= fun r1 =>
 (if (r1 == 0) = true then Z2 t >>= fun r2 =>
 some (!r2) else some false) >>= fun c3 =>
 some c3
def Zal.M (t : Za) (r : Bool) : Prop :=
 Zk Tryz.prog 21 [.agg [.v (.int .i64 t.fOp), .v (.string t.fName), .sl (t.fBound.fArgs.map Zi.cells), .sl (t.fKids.map Za.cells)]] [] (fun d b => d = .c none (.v (.bool r)) ∧ b = [])
theorem Ze1 (t : Za) (r : Bool) (hF : Zal t = some r) : Zal.M t r := by
 unfold Zal at hF
 unfold Zal.M
 refine en Tryz.func21 ?_
 refine AWP.seq ?_
 refine ns ?_
 refine AWP.seq ?_
 obtain ⟨r1, hr1, hF⟩ := bind_some hF
 obtain ⟨c3, hc3, hF⟩ := bind_some hF
 refine AWP.cutN (fun T => ∃ r, WS r T ⟨[(2, .c none (.v (.bool c3)))], []⟩) ?_ (fun T hw => ?_)
 ·refine ns ?_
  refine e3 ?_
  refine st ?_
  refine cm (Zk.weak (rn []) (Zfx t _ hr1) rfl (WS.mk (Zd (Zq (lc (lc (lc (lc Zn))))) Zb) Zc)) ?_
  refine st ?_
  refine Zl true (fun hc4 => ?_) (fun hc4 => ?_)
  ·have hc3 := ift hc4 hc3
   obtain ⟨r2, hr2, hc3⟩ := bind_some hc3
   (conv => whnf)
   refine st ?_
   refine e3 ?_
   refine st ?_
   refine cm (Zk.weak (rn []) (Zi4 t _ hr2) rfl (WS.mk (Zd (Zq (lc (lc (lc (lc Zn))))) Zb) Zc)) ?_
   refine st ?_
   obtain rfl := Zh hc3
   refine st ?_
   exact wx (WS.mk (Zd (Zp (web hc4)) Zb) Zc)
  ·have hc3 := ife hc4 hc3
   (conv => whnf)
   obtain rfl := Zh hc3
   refine st ?_
   exact wx (WS.mk (Zd (Zp (web hc4)) Zb) Zc)
 obtain ⟨r0, hw⟩ := hw
 (conv => whnf)
 refine AWP.weak r0 hw ?_
 obtain rfl := Zh hF
 refine ns ?_
 refine Exists.intro [] ?_
 refine st ?_
 exact wx (WS.mk (tc Zb) Zc)

mutual
def Zbj (t : Za) : Option (Za) :=
 ZaI t 0 ([]) t.fKids
 partial_fixpoint
def ZaI (t : Za) (ZrV : Nat) (ZfN : (List Za)) (ZjY : (List Za)) : Option (Za) :=
 (match ZjY with
 | x59 :: Zt2 =>
 Zbj x59 >>= fun r68 =>
 Zac ((ZfN.length + ([r68]).length) * 72 ≤ 140737488355328) >>= fun _ =>
 ZaI t (ZrV + 1) (ZfN ++ ([r68])) Zt2
 | [] =>
 some (Za.mk t.fOp t.fName t.fBound ZfN))
 partial_fixpoint
end
def Zbj.M (t : Za) (r : Za) : Prop :=
 Zk Tryz.prog 54 [.agg [.v (.int .i64 t.fOp), .v (.string t.fName), .sl (t.fBound.fArgs.map Zi.cells), .sl (t.fKids.map Za.cells)]] [] (fun d b => d = .agg [.v (.int .i64 r.fOp), .v (.string r.fName), .sl (r.fBound.fArgs.map Zi.cells), .sl (r.fKids.map Za.cells)] ∧ b = [])
def ZaI.M (t : Za) (ZrV : Nat) (ZfN : (List Za)) (ZjY : (List Za)) (r : Za) : Prop :=
 ∀ Zm0 : List Za, t.fKids = Zm0 ++ ZjY → ZrV = Zm0.length → t.fKids.length ≤ maxLen → AWL Tryz.prog 24 (Code.sub (Zs Tryz.f54) [1, 1, 1, 0, 1, 0, 0]) (Code.cont Tryz.prog 24 (Zs Tryz.f54) [1, 1, 1, 0, 1, 0] (Zce tab Tryz.f54.results (Zch (.agg [.v (.int .i64 r.fOp), .v (.string r.fName), .sl (r.fBound.fArgs.map Zi.cells), .sl (r.fKids.map Za.cells)]) []))) ⟨[(1, .ptr 1 0), (2, .ptr 2 0), (9, .c none (.sl (t.fKids.map Za.cells))), (10, .c none (.v (.int .i64 ((t.fKids.length : Nat) : Int)))), (11, .c none (.v (.int .i64 ((ZrV : Nat) : Int))))], [(1, [(none, .v (.int .i64 t.fOp)), (none, .v (.string t.fName)), (none, .sl (t.fBound.fArgs.map Zi.cells)), ((some (4053, 28)), .sl (ZfN.map Za.cells))]), (2, [(none, .v (.int .i64 0)), (none, .v (.string (ByteArray.mk #[]))), (none, .nils), (none, .nils)])]⟩
theorem ZnB : (∀ (t : Za), ∀ r, Zbj t = some r → Zbj.M t r) ∧ (∀ (t : Za) (ZrV : Nat) (ZfN : (List Za)) (ZjY : (List Za)), ∀ r, ZaI t ZrV ZfN ZjY = some r → ZaI.M t ZrV ZfN ZjY r) := by
 refine Zbj.mutual_partial_correctness Zbj.M ZaI.M ?_ ?_
 ·intro unify_copied_l1' ZfS t r hF
  unfold Zbj.M
  refine en Tryz.func54 ?_
  refine AWP.seq ?_
  refine ns ?_
  refine AWP.seq ?_
  refine ns ?_
  refine AWP.seq ?_
  refine ns ?_
  refine AWP.seq ?_
  refine AWP.seq ?_
  refine ns ?_
  intro hlen35
  (try rw [List.length_map] at hlen35)
  (try rw [List.length_map])
  refine st ?_
  refine AWP.block ?_
  refine AWP.loop ?_
  refine AWL.weak (rn []) ?_ (ZfS t 0 ([]) t.fKids _ hF ([]) rfl rfl hlen35)
  exact (WS.mk (tp (tp (tc (tc (tc Zb))))) (Ze rfl (cc (cc (cc (Zjr Zg)))) (Ze rfl (cc (cc (cc (cc Zg)))) Zc)))
 ·intro unify_copied' unify_copied_l1' ZoL ZfS t ZrV ZfN ZjY r hF
  unfold ZaI.M
  intro Zm0 ZvQ Zvv hlen35
  refine AWL.step ?_
  refine AWP.seq ?_
  refine ns ?_
  refine AWP.seq ?_
  refine nw ?_
  refine ZK ZvQ Zvv (fun x59 Zt2 Zuy ZAr ZBq => ?_) (fun Zuy => ?_)
  ·subst Zuy
   refine nw ?_
   refine AWP.seq ?_
   refine AWP.block ?_
   refine AWP.seq ?_
   refine nn ?_
   refine sr (Zag (f := Za.cells) (Za.cells_eq x59) ZAr) ?_
   refine st ?_
   obtain ⟨r68, ZxE, hF⟩ := bind_some hF
   obtain ⟨ZyJ, hF⟩ := ZD hF
   refine nn ?_
   refine Or.inl (Or.inl (Exists.intro 5 (Exists.intro [[], [], [], [], []] (Exists.intro [([15, 16, 17, 18, 19], [], []), ([16, 17, 18, 19], [], []), ([15, 16, 17, 18, 19], [], []), ([15, 16, 18, 19], [], []), ([15, 16, 19], [], [])] (Exists.intro [15, 16, 17, 18, 19] (And.intro (by decide +kernel) ?_))))))
   refine dp ?_
   refine dp ?_
   refine dp ?_
   (refine st ?_; apply Exists.intro; apply Exists.intro; apply And.intro; (focus ((conv => whnf); refine Exists.intro [] ?_; (conv => whnf); refine And.intro rfl ?_; (conv => whnf); refine Zk.mono (Zk.weak (rn []) (ZoL x59 _ ZxE) rfl (WS.mk (Zd (Zq (lc (lc (lc (lc Zn))))) Zb) Zc)) ?_; rintro d b ⟨rfl, rfl⟩; exact And.intro rfl (And.intro rfl rfl))); apply And.intro; (focus exact rfl); (conv => whnf))
   refine de (ZcZ (f := Za.cells) (Zem (Za.cells_eq r68) (lc (lc (lc (lc Zn))))) (Zbb (f := Za.cells))) ?_
   refine sa (fun l => Zc0 l (fun x => Za.cells_len x)) ZyJ ?_
   refine Exists.intro _ (And.intro (WE.refl _) ?_)
   rw [← List.map_append]
   refine st ?_
   refine ns ?_
   refine AWL.weak (rn [(20, 4053)]) ?_ (ZfS t (ZrV + 1) (ZfN ++ ([r68])) Zt2 _ hF (Zm0 ++ [x59]) (by rw [ZvQ]; simp) (by rw [Zvv]; simp) hlen35)
   exact (WS.mk (tp (tp (tc (tc (Zd (Zp (Zc3 (ZX hlen35 ZBq))) Zb))))) (Ze rfl (cc (cc (cc (ZfY rfl (WE.refl _) Zg)))) (Ze rfl (cc (cc (cc (cc Zg)))) Zc)))
  ·subst Zuy
   refine nw ?_
   refine AWP.seq ?_
   refine ns ?_
   obtain rfl := Zh hF
   refine ns ?_
   refine Exists.intro [] ?_
   refine st ?_
   exact wx (WS.mk (Zd (Zq (lc (lc (lc (lc Zn))))) Zb) Zc)
theorem Zkv : ∀ (t : Za), ∀ r, Zbj t = some r → Zbj.M t r := ZnB.1

mutual
def Zaw (k : Zi) : Option (Zi) :=
 Zbz k 0 ([]) k.fArgs
 partial_fixpoint
def Zbz (k : Zi) (x_9 : Nat) (Zg9 : (List Zi)) (ZbQ : (List Zi)) : Option (Zi) :=
 (match ZbQ with
 | x59 :: Zt2 =>
 Zaw x59 >>= fun r68 =>
 Zac ((Zg9.length + ([r68]).length) * 24 ≤ 140737488355328) >>= fun _ =>
 Zbz k (x_9 + 1) (Zg9 ++ ([r68])) Zt2
 | [] =>
 some (Zi.mk Zg9))
 partial_fixpoint
end
def Zaw.M (k : Zi) (r : Zi) : Prop :=
 Zk Tryz.prog 99 [.agg [.sl (k.fArgs.map Zi.cells)]] [] (fun d b => d = .agg [.sl (r.fArgs.map Zi.cells)] ∧ b = [])
def Zbz.M (k : Zi) (x_9 : Nat) (Zg9 : (List Zi)) (ZbQ : (List Zi)) (r : Zi) : Prop :=
 ∀ ZcO : List Zi, k.fArgs = ZcO ++ ZbQ → x_9 = ZcO.length → k.fArgs.length ≤ maxLen → AWL Tryz.prog 22 (Code.sub (Zs Tryz.f99) [1, 1, 0, 1, 0, 0]) (Code.cont Tryz.prog 22 (Zs Tryz.f99) [1, 1, 0, 1, 0] (Zce tab Tryz.f99.results (Zch (.agg [.sl (r.fArgs.map Zi.cells)]) []))) ⟨[(2, .ptr 2 0), (3, .ptr 3 0), (7, .c none (.sl (k.fArgs.map Zi.cells))), (8, .c none (.v (.int .i64 ((k.fArgs.length : Nat) : Int)))), (9, .c none (.v (.int .i64 ((x_9 : Nat) : Int))))], [(2, [(none, .nils)]), (3, [((some (4150, 25)), .sl (Zg9.map Zi.cells))])]⟩
theorem Zlm : (∀ (k : Zi), ∀ r, Zaw k = some r → Zaw.M k r) ∧ (∀ (k : Zi) (x_9 : Nat) (Zg9 : (List Zi)) (ZbQ : (List Zi)), ∀ r, Zbz k x_9 Zg9 ZbQ = some r → Zbz.M k x_9 Zg9 ZbQ r) := by
 refine Zaw.mutual_partial_correctness Zaw.M Zbz.M ?_ ?_
 ·intro types_copiedKind_l1' ZeH k r hF
  unfold Zaw.M
  refine en Tryz.func99 ?_
  refine AWP.seq ?_
  refine ns ?_
  refine AWP.seq ?_
  refine ns ?_
  refine AWP.seq ?_
  refine AWP.seq ?_
  refine ns ?_
  intro hlen35
  (try rw [List.length_map] at hlen35)
  (try rw [List.length_map])
  refine st ?_
  refine AWP.block ?_
  refine AWP.loop ?_
  refine AWL.weak (rn []) ?_ (ZeH k 0 ([]) k.fArgs _ hF ([]) rfl rfl hlen35)
  exact (WS.mk (tp (tp (tc (tc (tc Zb))))) (Ze rfl (cc Zg) (Ze rfl (Zjr Zg) Zc)))
 ·intro types_copiedKind' types_copiedKind_l1' Zl0 ZeH k x_9 Zg9 ZbQ r hF
  unfold Zbz.M
  intro ZcO Zgm Zgy hlen35
  refine AWL.step ?_
  refine AWP.seq ?_
  refine ns ?_
  refine AWP.seq ?_
  refine nw ?_
  refine ZK Zgm Zgy (fun x59 Zt2 Zuy ZAr ZBq => ?_) (fun Zuy => ?_)
  ·subst Zuy
   refine nw ?_
   refine AWP.seq ?_
   refine AWP.block ?_
   refine AWP.seq ?_
   refine nn ?_
   refine sr (Zag (f := Zi.cells) (Zi.cells_eq x59) ZAr) ?_
   refine st ?_
   obtain ⟨r68, ZxE, hF⟩ := bind_some hF
   obtain ⟨ZyJ, hF⟩ := ZD hF
   refine nn ?_
   refine Or.inl (Or.inl (Exists.intro 5 (Exists.intro [[], [], [], [], []] (Exists.intro [([13, 14, 15, 16, 17], [], []), ([14, 15, 16, 17], [], []), ([13, 14, 15, 16, 17], [], []), ([13, 14, 16, 17], [], []), ([13, 14, 17], [], [])] (Exists.intro [13, 14, 15, 16, 17] (And.intro (by decide +kernel) ?_))))))
   refine dp ?_
   refine dp ?_
   refine dp ?_
   (refine st ?_; apply Exists.intro; apply Exists.intro; apply And.intro; (focus ((conv => whnf); refine Exists.intro [] ?_; (conv => whnf); refine And.intro rfl ?_; (conv => whnf); refine Zk.mono (Zk.weak (rn []) (Zl0 x59 _ ZxE) rfl (WS.mk (Zd (Zq (lc Zn)) Zb) Zc)) ?_; rintro d b ⟨rfl, rfl⟩; exact And.intro rfl (And.intro rfl rfl))); apply And.intro; (focus exact rfl); (conv => whnf))
   refine de (ZcZ (f := Zi.cells) (Zem (Zi.cells_eq r68) (lc Zn)) (Zbb (f := Zi.cells))) ?_
   refine sa (fun l => Zc0 l (fun x => Zi.cells_len x)) ZyJ ?_
   refine Exists.intro _ (And.intro (WE.refl _) ?_)
   rw [← List.map_append]
   refine st ?_
   refine ns ?_
   refine AWL.weak (rn [(18, 4150)]) ?_ (ZeH k (x_9 + 1) (Zg9 ++ ([r68])) Zt2 _ hF (ZcO ++ [x59]) (by rw [Zgm]; simp) (by rw [Zgy]; simp) hlen35)
   exact (WS.mk (tp (tp (tc (tc (Zd (Zp (Zc3 (ZX hlen35 ZBq))) Zb))))) (Ze rfl (cc Zg) (Ze rfl (ZfY rfl (WE.refl _) Zg) Zc)))
  ·subst Zuy
   refine nw ?_
   refine AWP.seq ?_
   refine ns ?_
   obtain rfl := Zh hF
   refine ns ?_
   refine Exists.intro [] ?_
   refine st ?_
   exact wx (WS.mk (Zd (Zq (lc Zn)) Zb) Zc)
theorem Zl4 : ∀ (k : Zi), ∀ r, Zaw k = some r → Zaw.M k r := Zlm.1

mutual
def ZbS (t : Za) : Option (Za) :=
 Zaw t.fBound >>= fun r1 =>
 ZaH t 0 r1 ([]) t.fKids
 partial_fixpoint
def ZaH (t : Za) (Zgn : Nat) (r1 : (Zi)) (ZfN : (List Za)) (ZcU : (List Za)) : Option (Za) :=
 (match ZcU with
 | x60 :: ZAx =>
 ZbS x60 >>= fun r69 =>
 Zac ((ZfN.length + ([r69]).length) * 72 ≤ 140737488355328) >>= fun _ =>
 ZaH t (Zgn + 1) r1 (ZfN ++ ([r69])) ZAx
 | [] =>
 some (Za.mk t.fOp t.fName r1 ZfN))
 partial_fixpoint
end
def ZbS.M (t : Za) (r : Za) : Prop :=
 Zk Tryz.prog 95 [.agg [.v (.int .i64 t.fOp), .v (.string t.fName), .sl (t.fBound.fArgs.map Zi.cells), .sl (t.fKids.map Za.cells)]] [] (fun d b => d = .agg [.v (.int .i64 r.fOp), .v (.string r.fName), .sl (r.fBound.fArgs.map Zi.cells), .sl (r.fKids.map Za.cells)] ∧ b = [])
def ZaH.M (t : Za) (Zgn : Nat) (r1 : (Zi)) (ZfN : (List Za)) (ZcU : (List Za)) (r : Za) : Prop :=
 ∀ Zea : List Za, t.fKids = Zea ++ ZcU → Zgn = Zea.length → t.fKids.length ≤ maxLen → AWL Tryz.prog 28 (Code.sub (Zs Tryz.f95) [1, 1, 1, 1, 0, 1, 0, 0]) (Code.cont Tryz.prog 28 (Zs Tryz.f95) [1, 1, 1, 1, 0, 1, 0] (Zce tab Tryz.f95.results (Zch (.agg [.v (.int .i64 r.fOp), .v (.string r.fName), .sl (r.fBound.fArgs.map Zi.cells), .sl (r.fKids.map Za.cells)]) []))) ⟨[(1, .ptr 1 0), (2, .ptr 2 0), (13, .c none (.sl (t.fKids.map Za.cells))), (14, .c none (.v (.int .i64 ((t.fKids.length : Nat) : Int)))), (15, .c none (.v (.int .i64 ((Zgn : Nat) : Int))))], [(1, [(none, .v (.int .i64 t.fOp)), (none, .v (.string t.fName)), (none, .sl (r1.fArgs.map Zi.cells)), ((some (4053, 28)), .sl (ZfN.map Za.cells))]), (2, [(none, .v (.int .i64 0)), (none, .v (.string (ByteArray.mk #[]))), (none, .nils), (none, .nils)])]⟩
theorem Zn2 : (∀ (t : Za), ∀ r, ZbS t = some r → ZbS.M t r) ∧ (∀ (t : Za) (Zgn : Nat) (r1 : (Zi)) (ZfN : (List Za)) (ZcU : (List Za)), ∀ r, ZaH t Zgn r1 ZfN ZcU = some r → ZaH.M t Zgn r1 ZfN ZcU r) := by
 refine ZbS.mutual_partial_correctness ZbS.M ZaH.M ?_ ?_
 ·intro types_copied_l1' ZfU t r hF
  unfold ZbS.M
  refine en Tryz.func95 ?_
  refine AWP.seq ?_
  refine ns ?_
  refine AWP.seq ?_
  obtain ⟨r1, hr1, hF⟩ := bind_some hF
  refine ns ?_
  refine e3 ?_
  refine st ?_
  refine cm (Zk.weak (rn []) (Zl4 t.fBound _ hr1) rfl (WS.mk (Zd (Zq (lc Zn)) Zb) Zc)) ?_
  refine st ?_
  refine AWP.seq ?_
  refine ns ?_
  refine AWP.seq ?_
  refine ns ?_
  refine AWP.seq ?_
  refine AWP.seq ?_
  refine ns ?_
  intro hlen36
  (try rw [List.length_map] at hlen36)
  (try rw [List.length_map])
  refine st ?_
  refine AWP.block ?_
  refine AWP.loop ?_
  refine AWL.weak (rn []) ?_ (ZfU t 0 r1 ([]) t.fKids _ hF ([]) rfl rfl hlen36)
  exact (WS.mk (tp (tp (tc (tc (tc Zb))))) (Ze rfl (cc (cc (cc (Zjr Zg)))) (Ze rfl (cc (cc (cc (cc Zg)))) Zc)))
 ·intro types_copied' types_copied_l1' ZoD ZfU t Zgn r1 ZfN ZcU r hF
  unfold ZaH.M
  intro Zea ZiF ZiD hlen36
  refine AWL.step ?_
  refine AWP.seq ?_
  refine ns ?_
  refine AWP.seq ?_
  refine nw ?_
  refine ZK ZiF ZiD (fun x60 ZAx ZAd ZEA ZEy => ?_) (fun ZAd => ?_)
  ·subst ZAd
   refine nw ?_
   refine AWP.seq ?_
   refine AWP.block ?_
   refine AWP.seq ?_
   refine nn ?_
   refine sr (Zag (f := Za.cells) (Za.cells_eq x60) ZEA) ?_
   refine st ?_
   obtain ⟨r69, ZBf, hF⟩ := bind_some hF
   obtain ⟨ZEz, hF⟩ := ZD hF
   refine nn ?_
   refine Or.inl (Or.inl (Exists.intro 5 (Exists.intro [[], [], [], [], []] (Exists.intro [([19, 20, 21, 22, 23], [], []), ([20, 21, 22, 23], [], []), ([19, 20, 21, 22, 23], [], []), ([19, 20, 22, 23], [], []), ([19, 20, 23], [], [])] (Exists.intro [19, 20, 21, 22, 23] (And.intro (by decide +kernel) ?_))))))
   refine dp ?_
   refine dp ?_
   refine dp ?_
   (refine st ?_; apply Exists.intro; apply Exists.intro; apply And.intro; (focus ((conv => whnf); refine Exists.intro [] ?_; (conv => whnf); refine And.intro rfl ?_; (conv => whnf); refine Zk.mono (Zk.weak (rn []) (ZoD x60 _ ZBf) rfl (WS.mk (Zd (Zq (lc (lc (lc (lc Zn))))) Zb) Zc)) ?_; rintro d b ⟨rfl, rfl⟩; exact And.intro rfl (And.intro rfl rfl))); apply And.intro; (focus exact rfl); (conv => whnf))
   refine de (ZcZ (f := Za.cells) (Zem (Za.cells_eq r69) (lc (lc (lc (lc Zn))))) (Zbb (f := Za.cells))) ?_
   refine sa (fun l => Zc0 l (fun x => Za.cells_len x)) ZEz ?_
   refine Exists.intro _ (And.intro (WE.refl _) ?_)
   rw [← List.map_append]
   refine st ?_
   refine ns ?_
   refine AWL.weak (rn [(24, 4053)]) ?_ (ZfU t (Zgn + 1) r1 (ZfN ++ ([r69])) ZAx _ hF (Zea ++ [x60]) (by rw [ZiF]; simp) (by rw [ZiD]; simp) hlen36)
   exact (WS.mk (tp (tp (tc (tc (Zd (Zp (Zc3 (ZX hlen36 ZEy))) Zb))))) (Ze rfl (cc (cc (cc (ZfY rfl (WE.refl _) Zg)))) (Ze rfl (cc (cc (cc (cc Zg)))) Zc)))
  ·subst ZAd
   refine nw ?_
   refine AWP.seq ?_
   refine ns ?_
   obtain rfl := Zh hF
   refine ns ?_
   refine Exists.intro [] ?_
   refine st ?_
   exact wx (WS.mk (Zd (Zq (lc (lc (lc (lc Zn))))) Zb) Zc)
theorem ZoR : ∀ (t : Za), ∀ r, ZbS t = some r → ZbS.M t r := Zn2.1

end Go.Proofs.YtgbglhbdjambbaaGreatDoor
