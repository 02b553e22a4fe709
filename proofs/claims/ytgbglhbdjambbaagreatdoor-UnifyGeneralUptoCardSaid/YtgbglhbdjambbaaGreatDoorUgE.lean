/- Part 5 of the proof: the program's functions as Lean functions with their walks, and the plain law. It holds for every input, without conditions. -/
import Derived.Test.YtgbglhbdjambbaaGreatDoorProg
import Derived.Lib.AppendIntMem
import Derived.Test.YtgbglhbdjambbaaGreatDoorUgA
import Derived.Test.YtgbglhbdjambbaaGreatDoorUgB
import Derived.Test.YtgbglhbdjambbaaGreatDoorUgC
import Derived.Test.YtgbglhbdjambbaaGreatDoorUgD
set_option linter.unusedVariables false
namespace Go.Proofs.YtgbglhbdjambbaaGreatDoor
open Go Go.Am
def ZwP (o : Option Value) : Prop := ∃ m, o = some (.int .i64 m)
def Zmz (o : Option Value) : Prop := ∃ ev, o = some ev ∧ (ev = .nilIface ∨ ∃ te pe, ev = .iface te pe)
def ZtG (i : Nat) (o : Option Value) : Prop := o = some (.int .u64 ((10 ^ i : Nat) : Int))
def Zrl (o : Option Value) : Prop := o = none
def Zoj : List (Nat × Nat × (Option Value → Prop)) := (3, 20, Zrl) :: (List.range 20).map fun i => (3, i, ZtG i)
def ZdB : List (Nat × Nat × (Option Value → Prop)) := [(0, 0, ZwP), (1, 0, Zmz), (2, 0, Zmz)]
instance : Gl Tryz.prog := ⟨Zoj ++ ZdB⟩

def tab : Tab := [
 (2, ⟨(.int .i64), 1, 8, some [.v (.int .i64 0)], true⟩),
 (3, ⟨(.int .i64), 1, 8, some [.v (.int .i64 0)], true⟩),
 (4, ⟨.bool, 1, 1, some [.v (.bool false)], true⟩),
 (5, ⟨(.int .u8), 1, 1, some [.v (.int .u8 0)], true⟩),
 (9, ⟨.string, 1, 16, some [.v (.string ⟨#[]⟩)], true⟩),
 (12, ⟨(.int .u64), 1, 8, some [.v (.int .u64 0)], true⟩),
 (13, ⟨(.struct [(9, 0), (12, 1)]), 2, 24, some [.v (.string ⟨#[]⟩), .v (.int .u64 0)], false⟩),
 (21, ⟨(.int .i32), 1, 4, some [.v (.int .i32 0)], true⟩),
 (22, ⟨(.int .i64), 1, 8, some [.v (.int .i64 0)], true⟩),
 (23, ⟨(.slice 25), 1, 24, some [.nils], true⟩),
 (24, ⟨(.struct [(23, 0)]), 1, 24, some [.nils], true⟩),
 (25, ⟨(.struct [(23, 0)]), 1, 24, some [.nils], true⟩),
 (26, ⟨(.slice 28), 1, 24, some [.nils], true⟩),
 (27, ⟨(.struct [(22, 0), (9, 1), (25, 2), (26, 3)]), 4, 72, some [.v (.int .i64 0), .v (.string ⟨#[]⟩), .nils, .nils], true⟩),
 (28, ⟨(.struct [(22, 0), (9, 1), (25, 2), (26, 3)]), 4, 72, some [.v (.int .i64 0), .v (.string ⟨#[]⟩), .nils, .nils], true⟩),
 (31, ⟨(.slice 45), 1, 24, some [.nils], true⟩),
 (32, ⟨(.int .i64), 1, 8, some [.v (.int .i64 0)], true⟩),
 (37, ⟨(.slice 38), 1, 24, some [.nils], true⟩),
 (38, ⟨(.array 2 28), 8, 144, some [.v (.int .i64 0), .v (.string ⟨#[]⟩), .nils, .nils, .v (.int .i64 0), .v (.string ⟨#[]⟩), .nils, .nils], true⟩),
 (42, ⟨(.slice 9), 1, 24, some [.nils], true⟩),
 (44, ⟨(.struct [(9, 0), (28, 1)]), 5, 88, some [.v (.string ⟨#[]⟩), .v (.int .i64 0), .v (.string ⟨#[]⟩), .nils, .nils], true⟩),
 (45, ⟨(.struct [(9, 0), (28, 1)]), 5, 88, some [.v (.string ⟨#[]⟩), .v (.int .i64 0), .v (.string ⟨#[]⟩), .nils, .nils], true⟩),
 (53, ⟨(.ptr 56), 1, 8, some [.v (.pointer none)], true⟩),
 (54, ⟨(.map 9 3), 1, 8, some [.v (.map none)], true⟩),
 (55, ⟨(.struct [(31, 0), (54, 1)]), 2, 32, some [.nils, .v (.map none)], true⟩),
 (56, ⟨(.struct [(31, 0), (54, 1)]), 2, 32, some [.nils, .v (.map none)], true⟩),
 (67, ⟨(.map 9 4), 1, 8, some [.v (.map none)], true⟩),
 (69, ⟨(.ptr 70), 1, 8, some [.v (.pointer none)], true⟩),
 (70, ⟨(.struct [(31, 0), (54, 1)]), 2, 32, some [.nils, .v (.map none)], true⟩),
 (74, ⟨(.map 9 9), 1, 8, some [.v (.map none)], true⟩),
 (81, ⟨(.int .i64), 1, 8, some [.v (.int .i64 0)], true⟩),
 (91, ⟨(.map 9 28), 1, 8, some [.v (.map none)], true⟩),
 (106, ⟨(.map 22 3), 1, 8, some [.v (.map none)], true⟩),
 (114, ⟨.iface, 1, 16, some [.v .nilIface], false⟩),
 (118, ⟨(.slice 123), 1, 24, some [.nils], true⟩),
 (122, ⟨(.struct [(9, 0), (9, 1)]), 2, 32, some [.v (.string ⟨#[]⟩), .v (.string ⟨#[]⟩)], true⟩),
 (123, ⟨(.struct [(9, 0), (9, 1)]), 2, 32, some [.v (.string ⟨#[]⟩), .v (.string ⟨#[]⟩)], true⟩),
 (131, ⟨(.int .i64), 1, 8, some [.v (.int .i64 0)], true⟩),
 (132, ⟨(.slice 5), 1, 24, some [.nils], true⟩),
 (139, ⟨(.int .u64), 1, 8, some [.v (.int .u64 0)], true⟩),
 (146, ⟨(.int .u64), 1, 8, some [.v (.int .u64 0)], true⟩),
 (148, ⟨(.struct [(9, 0), (9, 1), (114, 2)]), 3, 48, some [.v (.string ⟨#[]⟩), .v (.string ⟨#[]⟩), .v .nilIface], false⟩),
 (155, ⟨(.int .u32), 1, 4, some [.v (.int .u32 0)], true⟩),
 (160, ⟨(.ptr 5), 1, 8, some [.v (.pointer none)], true⟩),
 (162, ⟨(.struct [(9, 0)]), 1, 16, some [.v (.string ⟨#[]⟩)], true⟩)]
set_option maxRecDepth 100000
theorem tabOk : TOk Tryz.prog tab := by unfold TOk; kernel_rfl
theorem follows : Tryz.prog.follows .mixedOrders = true := by kernel_rfl
theorem ZEK (nt : Nat) (h : nt ≤ EXT) : Ztt Tryz.prog tab nt (@Zsw) := Zy0 tabOk h follows

set_option linter.unusedSimpArgs false
set_option maxHeartbeats 4000000
set_option synthInstance.maxHeartbeats 1000000
set_option synthInstance.maxSize 1000
theorem nd {nt : Nat} (h : decide (nt ≤ EXT) = true) (c : Code) (Q : Exit → AS → Prop) (S : AS) (hk : Am.node (@Zsw) Tryz.prog tab nt c Q S) : AWP Tryz.prog nt c Q S :=
 AWP.node tabOk (of_decide_eq_true h) (ZEK nt (of_decide_eq_true h)) c Q S hk
theorem Zzz : (Tryz.prog.underlying 1000000).isNone = true := by kernel_rfl
theorem nn {nt : Nat} {c : Code} {Q : Exit → AS → Prop} {S : AS} (hk : Am.node (@Zsw) Tryz.prog tab nt c Q S) (h : decide (nt ≤ EXT) = true := by decide) : AWP Tryz.prog nt c Q S := nd h c Q S hk
theorem nw {nt : Nat} {c : Code} {Q : Exit → AS → Prop} {S : AS} {G' : Prop} (hk : G') (s : Zd6 (Am.node (@Zsw) Tryz.prog tab nt c Q S) G' := by (conv => (arg 1; whnf)); exact Zd6.done) (h : decide (nt ≤ EXT) = true := by decide) : AWP Tryz.prog nt c Q S := nd h c Q S (s hk)
theorem ns {nt : Nat} {c : Code} {Q : Exit → AS → Prop} {S : AS} {G' : Prop} (hk : G') (s : Zd6 (Am.node (@Zsw) Tryz.prog tab nt c Q S) G' := by
  (repeat (first | ((conv => (arg 1; whnf)); (with_reducible apply Zd6.side); (focus (first | exact Eq.refl _ | exact trivial | (with_reducible assumption) | (with_reducible exact Int.natCast_nonneg _) | exact Nat.le_of_ble_eq_true (Eq.refl true) | exact ZdG (Eq.refl _) (Eq.refl _) (Eq.refl _) | decide)))))
  (conv => (arg 1; whnf))
  exact Zd6.done) (h : decide (nt ≤ EXT) = true := by decide) : AWP Tryz.prog nt c Q S := nd h c Q S (s hk)
theorem en {f : FuncId} {fn : Func} (hf : Tryz.prog.funcs[f]? = some fn) {args : List D} {bx bx' : Zbx} {d' : D} (hk : AWP Tryz.prog fn.ntmps (Zq fn) (ZbS tab fn.results (ZbX d' bx')) ⟨ZdD 0 args, bx⟩)
  (hb : fn.body.isSome = true := by exact rfl) (hname : (fn.name == "runtime.NumGoroutine") = false := by decide) (hargs : args.length ≤ fn.ntmps := by exact Nat.le_of_ble_eq_true rfl) : Zk Tryz.prog f args bx fun d b => d = d' ∧ b = bx' :=
 enter tabOk hf hb hname hargs hk
mutual
inductive Zi where
 | mk (fArgs : (List Zi))
end
def Zi.fArgs : Zi → (List Zi) | .mk x => x
mutual
def Zi.cells : Zi → List E
 | .mk x0 => [.sl (Zi.encs x0)]
def Zi.encs : List Zi → List (List E)
 | [] => []
 | x :: xs => Zi.cells x :: Zi.encs xs
end
theorem Zi.encs_map : ∀ l : List Zi, Zi.encs l = l.map Zi.cells
 | [] => by simp [Zi.encs]
 | x :: xs => by simp [Zi.encs, Zi.encs_map xs]
theorem Zi.cells_eq (v : Zi) : v.cells = [.sl (v.fArgs.map Zi.cells)] := by
 cases v
 simp only [Zi.cells, List.cons_append, List.nil_append, Zi.encs_map]
 rfl
theorem Zi.cells_len (v : Zi) : v.cells.length = 1 := by rw [Zi.cells_eq]; rfl
theorem Zi.ind {M : Zi → Prop} (h : ∀ v : Zi, (∀ k ∈ v.fArgs, M k) → M v) : ∀ v, M v := by
 intro v
 exact Zi.rec (motive_1 := M) (motive_2 := fun l => ∀ k ∈ l, M k) (fun x0 ih => h _ ih) (fun k hk => by simp at hk) (fun v l hv hl k hk => by
  rcases List.mem_cons.1 hk with rfl | hk
  ·exact hv
  ·exact hl k hk) v
mutual
inductive Za where
 | mk (fOp : Int) (fName : ByteArray) (fBound : Zi) (fKids : (List Za))
end
def Za.fOp : Za → Int | .mk x _ _ _ => x
def Za.fName : Za → ByteArray | .mk _ x _ _ => x
def Za.fBound : Za → Zi | .mk _ _ x _ => x
def Za.fKids : Za → (List Za) | .mk _ _ _ x => x
mutual
def Za.cells : Za → List E
 | .mk x0 x1 x2 x3 => [.v (.int .i64 x0)] ++ [.v (.string x1)] ++ [.sl (x2.fArgs.map Zi.cells)] ++ [.sl (Za.encs x3)]
def Za.encs : List Za → List (List E)
 | [] => []
 | x :: xs => Za.cells x :: Za.encs xs
end
theorem Za.encs_map : ∀ l : List Za, Za.encs l = l.map Za.cells
 | [] => by simp [Za.encs]
 | x :: xs => by simp [Za.encs, Za.encs_map xs]
theorem Za.cells_eq (v : Za) : v.cells = [.v (.int .i64 v.fOp), .v (.string v.fName), .sl (v.fBound.fArgs.map Zi.cells), .sl (v.fKids.map Za.cells)] := by
 cases v
 simp only [Za.cells, List.cons_append, List.nil_append, Za.encs_map]
 rfl
theorem Za.cells_len (v : Za) : v.cells.length = 4 := by rw [Za.cells_eq]; rfl
theorem Za.ind {M : Za → Prop} (h : ∀ v : Za, (∀ k ∈ v.fKids, M k) → M v) : ∀ v, M v := by
 intro v
 exact Za.rec (motive_1 := M) (motive_2 := fun l => ∀ k ∈ l, M k) (fun x0 x1 x2 x3 ih => h _ ih) (fun k hk => by simp at hk) (fun v l hv hl k hk => by
  rcases List.mem_cons.1 hk with rfl | hk
  ·exact hv
  ·exact hl k hk) v
structure Ze where
 fName : ByteArray
 fType : Za
def Ze.cells (v : Ze) : List E := [.v (.string v.fName), .v (.int .i64 v.fType.fOp), .v (.string v.fType.fName), .sl (v.fType.fBound.fArgs.map Zi.cells), .sl (v.fType.fKids.map Za.cells)]
theorem Ze.cells_eq (v : Ze) : v.cells = [.v (.string v.fName), .v (.int .i64 v.fType.fOp), .v (.string v.fType.fName), .sl (v.fType.fBound.fArgs.map Zi.cells), .sl (v.fType.fKids.map Za.cells)] := rfl
theorem Ze.cells_len (v : Ze) : v.cells.length = 5 := rfl
def c_S (x : ByteArray) : List E := [.v (.string x)]
theorem Zfg (x : ByteArray) : (c_S x).length = 1 := rfl
def Zb6 (x : Int) : List E := [.v (.int .i64 x)]
theorem Zl2 (x : Int) : (Zb6 x).length = 1 := rfl
structure Zr where
 flist : (List Ze)
 fat : (List (ByteArray × Int))
structure Zn where
 e0 : Za
 e1 : Za
def Zn.cells (v : Zn) : List E := [.v (.int .i64 v.e0.fOp), .v (.string v.e0.fName), .sl (v.e0.fBound.fArgs.map Zi.cells), .sl (v.e0.fKids.map Za.cells), .v (.int .i64 v.e1.fOp), .v (.string v.e1.fName), .sl (v.e1.fBound.fArgs.map Zi.cells), .sl (v.e1.fKids.map Za.cells)]
theorem Zn.cells_eq (v : Zn) : v.cells = [.v (.int .i64 v.e0.fOp), .v (.string v.e0.fName), .sl (v.e0.fBound.fArgs.map Zi.cells), .sl (v.e0.fKids.map Za.cells), .v (.int .i64 v.e1.fOp), .v (.string v.e1.fName), .sl (v.e1.fBound.fArgs.map Zi.cells), .sl (v.e1.fKids.map Za.cells)] := rfl
theorem Zn.cells_len (v : Zn) : v.cells.length = 8 := rfl
theorem ZgW : Zkv c_S := ZvF
theorem Zl4 : Zkv Zb6 := ZAZ

def strconv_Itoa.M (i : Int) (r : ByteArray) : Prop :=
 Zk Tryz.prog 113 [.c none (.v (.int .i64 i))] [] (fun d b => d = .c none (.v (.string r)) ∧ b = [])
def strings_Cut.M (s : ByteArray) (sep : ByteArray) (r : ByteArray × ByteArray × Bool) : Prop :=
 Zk Tryz.prog 140 [.c none (.v (.string s)), .c none (.v (.string sep))] [] (fun d b => d = .tup [.c (.v (.string r.1)), .c (.v (.string r.2.1)), .c (.v (.bool r.2.2))] ∧ b = [])
def strings_IndexByte.M (s : ByteArray) (c : Int) (r : Int) : Prop :=
 Zk Tryz.prog 149 [.c none (.v (.string s)), .c none (.v (.int .u8 c))] [] (fun d b => d = .c none (.v (.int .i64 r)) ∧ b = [])
def ZeW.M (s : ByteArray) (r : Int × Bool) : Prop :=
 Zk Tryz.prog 115 [.c none (.v (.string s))] [] (fun d b => d = .tup [.c (.v (.int .i64 r.1)), .c (.ifc r.2)] ∧ b = [])
def Zdb.M (s : (List ByteArray)) (r : (List ByteArray)) : Prop :=
 Zk Tryz.prog 122 [.c none (.sl (s.map c_S))] [] (fun d b => d = .c (some (0, 9)) (.sl (r.map c_S)) ∧ b = [])

open Go Go.Am Go.RowKit
theorem Zmt {P : Program} [Gl P] {f : FuncId} {args : List D} {d0 : D} (h : CallsA P f args fun d => d = d0) : Zk P f args [] fun d b => d = d0 ∧ b = [] :=
 ⟨h.1, fun w S0 M0 ZbQ ρ hv hr => (h.2 w S0 M0 ZbQ ρ hv hr).mono fun e w' ⟨v, r, bx', St', ρ', h1, h2, h3, h4⟩ =>
  ⟨v, r, [], St', ρ', h1, ⟨h2, rfl⟩, h3, h4.less ⟨fun i => .inr (.inl rfl), fun n cs hb => by cases hb⟩⟩⟩
theorem ZEQ {α : Type} {ZbQ : Array α} (h : ZbQ.size = 1) : ∃ a, ZbQ = #[a] := by
 obtain ⟨l⟩ := ZbQ
 match l, h with
 | [a], _ => exact ⟨a, rfl⟩
theorem ZF4 {α : Type} {ZbQ : Array α} (h : ZbQ.size = 2) : ∃ a b, ZbQ = #[a, b] := by
 obtain ⟨l⟩ := ZbQ
 match l, h with
 | [a, b], _ => exact ⟨a, b, rfl⟩
theorem Zec {w : World} {St : Z1} {s : Value} {x : Value} (h : Zcu w St (.v s) x) : x = s := by
 cases h; rfl
def ZnF (i : Int) : ByteArray := ⟨(Lib.itoa i).toArray⟩
def strconv_Itoa (i : Int) : Option ByteArray := ZK (-9223372036854775808 ≤ i ∧ i ≤ 9223372036854775807) >>= fun _ => some (ZnF i)
theorem ZDx (w : World) (St : Z1) (hG : Zjr Tryz.prog w St) : Lib.TabIs Tryz.prog w "internal/strconv.uint64pow10" .u64 Lib.pow10Tab := by
 have h0 : Zrl (w.cell? ⟨3, 20, none⟩) := (hG (3, 20, Zrl) (List.mem_append_left _ (List.mem_cons_self ..))).2
 have h1 : ∀ i, i < 20 → w.cell? ⟨3, i, none⟩ = some (.int .u64 ((10 ^ i : Nat) : Int)) := fun i hi =>
  (hG (3, i, ZtG i) (List.mem_append_left _ (List.mem_cons_of_mem _ (List.mem_map.2 ⟨i, List.mem_range.2 hi, rfl⟩)))).2
 have hg : Tryz.prog.globalNamed "internal/strconv.uint64pow10" = some 3 := by kernel_rfl
 unfold Lib.TabIs World.var?
 rw [hg]
 have h2 := h1 0 (by decide)
 unfold Zrl at h0
 unfold World.cell? at h0 h1 h2
 simp only [Option.bind_some]
 split at h2
 case h_2 => cases h2
 rename_i c t f hc
 simp only [hc, Option.isSome_none, Bool.false_eq_true, if_false] at h0 h1 ⊢
 congr 1
 apply Array.ext_getElem?
 intro i
 have e0 : ((Lib.pow10Tab.map fun z => Value.int .u64 z).toArray)[i]? = (Lib.pow10Tab.map fun z => Value.int .u64 z)[i]? := List.getElem?_toArray
 rw [e0, Lib.pow10Tab, List.getElem?_map, List.getElem?_map]
 by_cases hi : i < 20
 ·rw [h1 i hi, List.getElem?_range hi]; rfl
 ·have : c.size ≤ 20 := by
   rcases Nat.lt_or_ge 20 c.size with h | h
   ·rw [Array.getElem?_eq_getElem h] at h0; cases h0
   ·exact h
  rw [Array.getElem?_eq_none (by omega), List.getElem?_eq_none (by simp; omega)]; rfl
theorem Zvj (w : World) (os : Array Obj) (k : Nat) : Below w.heap.size w (Sort.grow (w.drewN k) os) := Lib.below_grow _ w (Nat.le_refl _) k os
theorem Zk8 (i : Int) (r : ByteArray) (h : strconv_Itoa i = some r) : strconv_Itoa.M i r := by
 unfold strconv_Itoa at h
 obtain ⟨hc, h⟩ := Zy h
 obtain rfl := Zg h
 refine Zmt (CallsA.of_calls ⟨_, Tryz.func113, by decide, rfl⟩ fun w St ρ ZbQ hv hr hlt hG => ?_)
 obtain ⟨a, rfl⟩ := ZEQ hv
 obtain rfl := Zec (show Zcu w St (.v (.int .i64 i)) a from (hr 0).val)
 refine (Tryz.strconv_Itoa i hc.1 hc.2 w (ZDx w St hG)).mono ?_
 rintro e w' ⟨rfl, k, os, rfl⟩
 exact ⟨_, rfl, rfl, rfl, Zvj w os k⟩
def Zxo (s : ByteArray) : Int × Bool :=
 match Lib.atoiAll s.data.toList with
 | .ok v => (v, false)
 | .range => (Lib.atoiSat s.data.toList, true)
 | _ => (0, true)
def ZeW (s : ByteArray) : Option (Int × Bool) := ZK (s.size ≤ 281474976710656) >>= fun _ => some (Zxo s)
theorem ZC5 (w : World) (St : Z1) (hG : Zjr Tryz.prog w St) : Zmz (w.cell? ⟨1, 0, none⟩) ∧ Zmz (w.cell? ⟨2, 0, none⟩) :=
 ⟨(hG (1, 0, Zmz) (by first | exact List.mem_append_right _ (by simp [ZdB]) | (show _ ∈ ZdB; simp [ZdB]))).2, (hG (2, 0, Zmz) (by first | exact List.mem_append_right _ (by simp [ZdB]) | (show _ ∈ ZdB; simp [ZdB]))).2⟩
theorem ZDF {w : World} {St : Z1} {ρ : Nat → Nat} {n : Int} {b : Bool} {v : Value} (hv : (b = false ∧ v = .nilIface) ∨ (b = true ∧ ∃ t u, v = .iface t u)) : Zdj w St ρ (.tup [.c (.v (.int .i64 n)), .c (.ifc b)]) (.tuple #[.int .i64 n, v]) := by
 refine ⟨[.int .i64 n, v], rfl, rfl, fun k x hk => ?_⟩
 match k, hk with
 | 0, hk => simp only [List.getElem?_cons_zero, Option.some.injEq] at hk; subst hk; exact ⟨_, rfl, .e _ _ (.v _ rfl)⟩
 | 1, hk => simp only [List.getElem?_cons_succ, List.getElem?_cons_zero, Option.some.injEq] at hk; subst hk; exact ⟨_, rfl, .e _ _ (.ifc b v hv)⟩
 | k + 2, hk => simp at hk
theorem Zud {w w' : World} (h : w' = w ∨ ∃ t, w' = Lib.bytesWorld w 5 t) : Below w.heap.size w w' := by
 rcases h with rfl | ⟨t, rfl⟩
 ·exact Below.refl _ _
 ·exact Lib.bytesWorld_below w 5 t
theorem strconv_Atoi_ok (s : ByteArray) (r : Int × Bool) (h : ZeW s = some r) : ZeW.M s r := by
 unfold ZeW at h
 obtain ⟨hc, h⟩ := Zy h
 obtain rfl := Zg h
 refine Zmt (CallsA.of_callsD ⟨_, Tryz.func115, by decide, rfl⟩ fun w St ρ ZbQ hv hr hlt hG => ?_)
 obtain ⟨a, rfl⟩ := ZEQ hv
 obtain rfl := Zec (show Zcu w St (.v (.string s)) a from (hr 0).val)
 obtain ⟨⟨e3, h3, i3⟩, e4, h4, i4⟩ := ZC5 w St hG
 unfold Zxo
 cases hn : Lib.atoiAll s.data.toList
 ·rename_i v
  refine (Tryz.strconv_Atoi_ok s (by omega) v hn w).mono ?_
  rintro e w' ⟨rfl, hw⟩
  exact ⟨_, _, rfl, ZDF (.inl ⟨rfl, rfl⟩), rfl, rfl, Zud hw⟩
 ·refine (Tryz.strconv_Atoi_syntax s hc (by rw [hn]; rfl) e3 w h3 i3).mono ?_
  rintro e w' ⟨N, rfl, _, _, hw⟩
  exact ⟨_, _, rfl, ZDF (.inr ⟨rfl, _, _, rfl⟩), rfl, rfl, hw⟩
 ·refine (Tryz.strconv_Atoi_range s hc hn e4 w h4 i4).mono ?_
  rintro e w' ⟨N, rfl, _, _, hw⟩
  exact ⟨_, _, rfl, ZDF (.inr ⟨rfl, _, _, rfl⟩), rfl, rfl, hw⟩
def strings_IndexByte (s : ByteArray) (c : Int) : Option Int := some (Lib.indexByte s.data.toList c.toNat.toUInt8)
theorem Zlt (s : ByteArray) (c r : Int) (h : strings_IndexByte s c = some r) : strings_IndexByte.M s c r := by
 injection h with h; subst h
 refine Zmt (CallsA.of_calls ⟨_, Tryz.func149, by decide, rfl⟩ fun w St ρ ZbQ hv hr hlt hG => ?_)
 obtain ⟨a, b, rfl⟩ := ZF4 hv
 obtain rfl := Zec (show Zcu w St (.v (.string s)) a from (hr 0).val)
 obtain rfl := Zec (show Zcu w St (.v (.int .u8 c)) b from (hr 1).val)
 refine (Tryz.strings_IndexByte s c w).mono ?_
 rintro e w' ⟨rfl, rfl⟩
 exact ⟨_, rfl, rfl, rfl, Below.refl _ _⟩
def ZD0 (s sep : ByteArray) : ByteArray × ByteArray × Bool := (⟨(Lib.cut s.data.toList sep.data.toList).1.toArray⟩, ⟨(Lib.cut s.data.toList sep.data.toList).2.1.toArray⟩, (Lib.cut s.data.toList sep.data.toList).2.2)
def strings_Cut (s sep : ByteArray) : Option (ByteArray × ByteArray × Bool) := ZK (s.size < 4294967281) >>= fun _ => some (ZD0 s sep)
theorem ZIp {w : World} {St : Z1} {ρ : Nat → Nat} {a b c : Value} (ha : a.oneCell' = true) (hb : b.oneCell' = true) (hc : c.oneCell' = true) : Zdj w St ρ (.tup [.c (.v a), .c (.v b), .c (.v c)]) (.tuple #[a, b, c]) := by
 refine ⟨[a, b, c], rfl, rfl, fun k x hk => ?_⟩
 match k, hk with
 | 0, hk => simp only [List.getElem?_cons_zero, Option.some.injEq] at hk; subst hk; exact ⟨_, rfl, .e _ _ (.v _ ha)⟩
 | 1, hk => simp only [List.getElem?_cons_succ, List.getElem?_cons_zero, Option.some.injEq] at hk; subst hk; exact ⟨_, rfl, .e _ _ (.v _ hb)⟩
 | 2, hk => simp only [List.getElem?_cons_succ, List.getElem?_cons_zero, Option.some.injEq] at hk; subst hk; exact ⟨_, rfl, .e _ _ (.v _ hc)⟩
 | k + 3, hk => simp at hk
theorem Zu4 (w : World) (n : Nat) : Below w.heap.size w (w.drewN n) := ⟨rfl, rfl, rfl, Nat.le_refl _, fun _ _ => rfl⟩
theorem Zq2 (s sep : ByteArray) (r : ByteArray × ByteArray × Bool) (h : strings_Cut s sep = some r) : strings_Cut.M s sep r := by
 unfold strings_Cut at h
 obtain ⟨hc, h⟩ := Zy h
 obtain rfl := Zg h
 refine Zmt (CallsA.of_callsD ⟨_, Tryz.func140, by decide, rfl⟩ fun w St ρ ZbQ hv hr hlt hG => ?_)
 obtain ⟨a, b, rfl⟩ := ZF4 hv
 obtain rfl := Zec (show Zcu w St (.v (.string s)) a from (hr 0).val)
 obtain rfl := Zec (show Zcu w St (.v (.string sep)) b from (hr 1).val)
 obtain ⟨m, hm⟩ := (hG (0, 0, ZwP) (by first | exact List.mem_append_right _ (by simp [ZdB]) | (show _ ∈ ZdB; simp [ZdB]))).2
 refine (Tryz.strings_Cut s sep m w hc hm).mono ?_
 rintro e w' ⟨rfl, n, rfl⟩
 exact ⟨_, _, rfl, ZIp rfl rfl rfl, rfl, rfl, Zu4 w n⟩

def Zdb (s : List ByteArray) : Option (List ByteArray) := ZK ((0 + s.length) * 16 ≤ 140737488355328) >>= fun _ => some s
theorem Zkg (s r : List ByteArray) (hF : Zdb s = some r) : Zdb.M s r := by
 unfold Zdb at hF
 obtain ⟨hg, hF⟩ := Zy hF
 obtain rfl := Zg hF
 unfold Zdb.M
 refine enter tabOk Tryz.func122 rfl (by decide) (Nat.le_of_ble_eq_true rfl) ?_
 refine AWP.seq ?_
 refine ns ?_
 refine AWP.seq ?_
 refine AWP.seq ?_
 refine ns ?_
 refine And.intro (fun hnil => ?_) ?_
 ·obtain rfl : s = [] := by simpa using hnil
  refine st ?_
  refine nw ?_
  refine AWP.seq ?_
  refine ns ?_
  refine ns ?_
  refine Exists.intro [] ?_
  refine st ?_
  exact Exists.intro (rn []) (WS.mk (Zd ZkZ Zc) Zb)
 ·refine st ?_
  refine nw ?_
  refine nw ?_
  refine AWP.seq ?_
  refine ns ?_
  refine Exists.intro [] (And.intro (WE.refl _) ?_)
  refine st ?_
  refine And.intro (ZbW _ (fun x => Zfg x)) (And.intro (by have h := hg; simp only [List.length_map, List.length_append, List.length_cons, List.length_nil, Nat.zero_add] at h ⊢; first | exact h | (unfold maxLen; omega) | omega) (And.intro (by have h := hg; simp only [List.length_map, List.length_append, List.length_cons, List.length_nil, Nat.zero_add] at h ⊢; first | exact h | (unfold maxLen; omega) | omega) (Exists.intro _ (And.intro (WE.refl _) ?_))))
  refine st ?_
  refine ns ?_
  refine Exists.intro [] ?_
  refine st ?_
  exact Exists.intro (rn [(7, 0)]) (WS.mk (Zd (Zay rfl (WE.refl _)) Zc) Zb)

def ZQ (x_4 : Bool) : Option (Bool) :=
 if x_4 = true then
 some true
 else
 some false
def ZQ.M (x_4 : Bool) (r : Bool) : Prop :=
 AWP Tryz.prog 15 (Code.sub (Zq Tryz.f118) [1, 0, 1, 0, 1]) (Code.cont Tryz.prog 15 (Zq Tryz.f118) [1, 0, 1, 0, 1] (ZbS tab Tryz.f118.results (ZbX (.c none (.v (.bool r))) []))) ⟨[(4, .c none (.v (.bool x_4)))], []⟩
theorem Zah (x_4 : Bool) (r : Bool) (hF : ZQ x_4 = some r) : ZQ.M x_4 r := by
 unfold ZQ at hF
 unfold ZQ.M
 refine nw ?_
 refine Zj hF (fun ZeC hF => ?_) (fun ZeC hF => ?_)
 ·refine AWP.seq ?_
  refine ns ?_
  obtain rfl := Zg hF
  refine ns ?_
  refine Exists.intro [] ?_
  refine st ?_
  exact wx (WS.mk (tc Zc) Zb)
 ·refine nw ?_
  refine AWP.seq ?_
  refine ns ?_
  obtain rfl := Zg hF
  refine ns ?_
  refine Exists.intro [] ?_
  refine st ?_
  exact wx (WS.mk (tc Zc) Zb)

def Zbs (s : ByteArray) : Option (Bool) :=
 if (s.toList == (ByteArray.mk #[46, 46]).toList) = true then
 ZQ (s.toList == (ByteArray.mk #[46, 46]).toList)
 else
 if (s.toList == (ByteArray.mk #[58, 58]).toList) = true then
 ZQ (s.toList == (ByteArray.mk #[58, 58]).toList)
 else
 if (s.toList == (ByteArray.mk #[61]).toList) = true then
 ZQ (s.toList == (ByteArray.mk #[61]).toList)
 else
 if (s.toList == (ByteArray.mk #[92]).toList) = true then
 ZQ (s.toList == (ByteArray.mk #[92]).toList)
 else
 if (s.toList == (ByteArray.mk #[124]).toList) = true then
 ZQ (s.toList == (ByteArray.mk #[124]).toList)
 else
 if (s.toList == (ByteArray.mk #[60, 45]).toList) = true then
 ZQ (s.toList == (ByteArray.mk #[60, 45]).toList)
 else
 if (s.toList == (ByteArray.mk #[45, 62]).toList) = true then
 ZQ (s.toList == (ByteArray.mk #[45, 62]).toList)
 else
 if (s.toList == (ByteArray.mk #[64]).toList) = true then
 ZQ (s.toList == (ByteArray.mk #[64]).toList)
 else
 if (s.toList == (ByteArray.mk #[126]).toList) = true then
 ZQ (s.toList == (ByteArray.mk #[126]).toList)
 else
 ZQ (s.toList == (ByteArray.mk #[61, 62]).toList)
def Zbs.M (s : ByteArray) (r : Bool) : Prop :=
 Zk Tryz.prog 118 [.c none (.v (.string s))] [] (fun d b => d = .c none (.v (.bool r)) ∧ b = [])
theorem ZeD (s : ByteArray) (r : Bool) (hF : Zbs s = some r) : Zbs.M s r := by
 unfold Zbs at hF
 unfold Zbs.M
 refine en Tryz.func118 ?_
 refine AWP.seq ?_
 refine ns ?_
 refine AWP.seq ?_
 refine AWP.seq ?_
 refine ns ?_
 refine AWP.block ?_
 refine AWP.seq ?_
 refine AWP.seq ?_
 refine ns ?_
 refine nw ?_
 refine Zj hF (fun Zct hF => ?_) (fun Zct hF => ?_)
 ·refine nw ?_
  refine AWP.weak (rn []) ?_ (Zah (s.toList == (ByteArray.mk #[46, 46]).toList) _ hF)
  exact (WS.mk (tc Zc) Zb)
 ·refine AWP.seq ?_
  refine ns ?_
  refine nw ?_
  refine Zj hF (fun Zd9 hF => ?_) (fun Zd9 hF => ?_)
  ·refine nw ?_
   refine AWP.weak (rn []) ?_ (Zah (s.toList == (ByteArray.mk #[58, 58]).toList) _ hF)
   exact (WS.mk (tc Zc) Zb)
  ·refine AWP.seq ?_
   refine ns ?_
   refine nw ?_
   refine Zj hF (fun Zcx hF => ?_) (fun Zcx hF => ?_)
   ·refine nw ?_
    refine AWP.weak (rn []) ?_ (Zah (s.toList == (ByteArray.mk #[61]).toList) _ hF)
    exact (WS.mk (tc Zc) Zb)
   ·refine AWP.seq ?_
    refine ns ?_
    refine nw ?_
    refine Zj hF (fun Zc5 hF => ?_) (fun Zc5 hF => ?_)
    ·refine nw ?_
     refine AWP.weak (rn []) ?_ (Zah (s.toList == (ByteArray.mk #[92]).toList) _ hF)
     exact (WS.mk (tc Zc) Zb)
    ·refine AWP.seq ?_
     refine ns ?_
     refine nw ?_
     refine Zj hF (fun Zf2 hF => ?_) (fun Zf2 hF => ?_)
     ·refine nw ?_
      refine AWP.weak (rn []) ?_ (Zah (s.toList == (ByteArray.mk #[124]).toList) _ hF)
      exact (WS.mk (tc Zc) Zb)
     ·refine AWP.seq ?_
      refine ns ?_
      refine nw ?_
      refine Zj hF (fun ZeI hF => ?_) (fun ZeI hF => ?_)
      ·refine nw ?_
       refine AWP.weak (rn []) ?_ (Zah (s.toList == (ByteArray.mk #[60, 45]).toList) _ hF)
       exact (WS.mk (tc Zc) Zb)
      ·refine AWP.seq ?_
       refine ns ?_
       refine nw ?_
       refine Zj hF (fun Zfl hF => ?_) (fun Zfl hF => ?_)
       ·refine nw ?_
        refine AWP.weak (rn []) ?_ (Zah (s.toList == (ByteArray.mk #[45, 62]).toList) _ hF)
        exact (WS.mk (tc Zc) Zb)
       ·refine AWP.seq ?_
        refine ns ?_
        refine nw ?_
        refine Zj hF (fun ZjH hF => ?_) (fun ZjH hF => ?_)
        ·refine nw ?_
         refine AWP.weak (rn []) ?_ (Zah (s.toList == (ByteArray.mk #[64]).toList) _ hF)
         exact (WS.mk (tc Zc) Zb)
        ·refine AWP.seq ?_
         refine ns ?_
         refine nw ?_
         refine Zj hF (fun ZnB hF => ?_) (fun ZnB hF => ?_)
         ·refine nw ?_
          refine AWP.weak (rn []) ?_ (Zah (s.toList == (ByteArray.mk #[126]).toList) _ hF)
          exact (WS.mk (tc Zc) Zb)
         ·refine ns ?_
          refine AWP.weak (rn []) ?_ (Zah (s.toList == (ByteArray.mk #[61, 62]).toList) _ hF)
          exact (WS.mk (tc Zc) Zb)

def Zu (x_4 : Bool) : Option (Bool) :=
 if x_4 = true then
 some true
 else
 some false
def Zu.M (x_4 : Bool) (r : Bool) : Prop :=
 AWP Tryz.prog 27 (Code.sub (Zq Tryz.f117) [1, 0, 1, 0, 1]) (Code.cont Tryz.prog 27 (Zq Tryz.f117) [1, 0, 1, 0, 1] (ZbS tab Tryz.f117.results (ZbX (.c none (.v (.bool r))) []))) ⟨[(4, .c none (.v (.bool x_4)))], []⟩
theorem Zx (x_4 : Bool) (r : Bool) (hF : Zu x_4 = some r) : Zu.M x_4 r := by
 unfold Zu at hF
 unfold Zu.M
 refine nw ?_
 refine Zj hF (fun ZtF hF => ?_) (fun ZtF hF => ?_)
 ·refine AWP.seq ?_
  refine ns ?_
  obtain rfl := Zg hF
  refine ns ?_
  refine Exists.intro [] ?_
  refine st ?_
  exact wx (WS.mk (tc Zc) Zb)
 ·refine nw ?_
  refine AWP.seq ?_
  refine ns ?_
  obtain rfl := Zg hF
  refine ns ?_
  refine Exists.intro [] ?_
  refine st ?_
  exact wx (WS.mk (tc Zc) Zb)

def ZbZ (s : ByteArray) : Option (Bool) :=
 if (s.toList == (ByteArray.mk #[97, 115]).toList) = true then
 Zu (s.toList == (ByteArray.mk #[97, 115]).toList)
 else
 if (s.toList == (ByteArray.mk #[99, 97, 115, 101]).toList) = true then
 Zu (s.toList == (ByteArray.mk #[99, 97, 115, 101]).toList)
 else
 if (s.toList == (ByteArray.mk #[99, 108, 97, 115, 115]).toList) = true then
 Zu (s.toList == (ByteArray.mk #[99, 108, 97, 115, 115]).toList)
 else
 if (s.toList == (ByteArray.mk #[100, 97, 116, 97]).toList) = true then
 Zu (s.toList == (ByteArray.mk #[100, 97, 116, 97]).toList)
 else
 if (s.toList == (ByteArray.mk #[100, 101, 114, 105, 118, 105, 110, 103]).toList) = true then
 Zu (s.toList == (ByteArray.mk #[100, 101, 114, 105, 118, 105, 110, 103]).toList)
 else
 if (s.toList == (ByteArray.mk #[100, 111]).toList) = true then
 Zu (s.toList == (ByteArray.mk #[100, 111]).toList)
 else
 if (s.toList == (ByteArray.mk #[101, 108, 115, 101]).toList) = true then
 Zu (s.toList == (ByteArray.mk #[101, 108, 115, 101]).toList)
 else
 if (s.toList == (ByteArray.mk #[104, 105, 100, 105, 110, 103]).toList) = true then
 Zu (s.toList == (ByteArray.mk #[104, 105, 100, 105, 110, 103]).toList)
 else
 if (s.toList == (ByteArray.mk #[105, 102]).toList) = true then
 Zu (s.toList == (ByteArray.mk #[105, 102]).toList)
 else
 if (s.toList == (ByteArray.mk #[105, 109, 112, 111, 114, 116]).toList) = true then
 Zu (s.toList == (ByteArray.mk #[105, 109, 112, 111, 114, 116]).toList)
 else
 if (s.toList == (ByteArray.mk #[105, 110]).toList) = true then
 Zu (s.toList == (ByteArray.mk #[105, 110]).toList)
 else
 if (s.toList == (ByteArray.mk #[105, 110, 102, 105, 120]).toList) = true then
 Zu (s.toList == (ByteArray.mk #[105, 110, 102, 105, 120]).toList)
 else
 if (s.toList == (ByteArray.mk #[105, 110, 102, 105, 120, 108]).toList) = true then
 Zu (s.toList == (ByteArray.mk #[105, 110, 102, 105, 120, 108]).toList)
 else
 if (s.toList == (ByteArray.mk #[105, 110, 102, 105, 120, 114]).toList) = true then
 Zu (s.toList == (ByteArray.mk #[105, 110, 102, 105, 120, 114]).toList)
 else
 if (s.toList == (ByteArray.mk #[105, 110, 115, 116, 97, 110, 99, 101]).toList) = true then
 Zu (s.toList == (ByteArray.mk #[105, 110, 115, 116, 97, 110, 99, 101]).toList)
 else
 if (s.toList == (ByteArray.mk #[108, 101, 116]).toList) = true then
 Zu (s.toList == (ByteArray.mk #[108, 101, 116]).toList)
 else
 if (s.toList == (ByteArray.mk #[109, 111, 100, 117, 108, 101]).toList) = true then
 Zu (s.toList == (ByteArray.mk #[109, 111, 100, 117, 108, 101]).toList)
 else
 if (s.toList == (ByteArray.mk #[111, 102]).toList) = true then
 Zu (s.toList == (ByteArray.mk #[111, 102]).toList)
 else
 if (s.toList == (ByteArray.mk #[113, 117, 97, 108, 105, 102, 105, 101, 100]).toList) = true then
 Zu (s.toList == (ByteArray.mk #[113, 117, 97, 108, 105, 102, 105, 101, 100]).toList)
 else
 if (s.toList == (ByteArray.mk #[116, 104, 101, 110]).toList) = true then
 Zu (s.toList == (ByteArray.mk #[116, 104, 101, 110]).toList)
 else
 if (s.toList == (ByteArray.mk #[119, 104, 101, 114, 101]).toList) = true then
 Zu (s.toList == (ByteArray.mk #[119, 104, 101, 114, 101]).toList)
 else
 Zu (s.toList == (ByteArray.mk #[95]).toList)
def ZbZ.M (s : ByteArray) (r : Bool) : Prop :=
 Zk Tryz.prog 117 [.c none (.v (.string s))] [] (fun d b => d = .c none (.v (.bool r)) ∧ b = [])
theorem Zhr (s : ByteArray) (r : Bool) (hF : ZbZ s = some r) : ZbZ.M s r := by
 unfold ZbZ at hF
 unfold ZbZ.M
 refine en Tryz.func117 ?_
 refine AWP.seq ?_
 refine ns ?_
 refine AWP.seq ?_
 refine AWP.seq ?_
 refine ns ?_
 refine AWP.block ?_
 refine AWP.seq ?_
 refine AWP.seq ?_
 refine ns ?_
 refine nw ?_
 refine Zj hF (fun ZDQ hF => ?_) (fun ZDQ hF => ?_)
 ·refine nw ?_
  refine AWP.weak (rn []) ?_ (Zx (s.toList == (ByteArray.mk #[97, 115]).toList) _ hF)
  exact (WS.mk (tc Zc) Zb)
 ·refine AWP.seq ?_
  refine ns ?_
  refine nw ?_
  refine Zj hF (fun ZAv hF => ?_) (fun ZAv hF => ?_)
  ·refine nw ?_
   refine AWP.weak (rn []) ?_ (Zx (s.toList == (ByteArray.mk #[99, 97, 115, 101]).toList) _ hF)
   exact (WS.mk (tc Zc) Zb)
  ·refine AWP.seq ?_
   refine ns ?_
   refine nw ?_
   refine Zj hF (fun Zi5 hF => ?_) (fun Zi5 hF => ?_)
   ·refine nw ?_
    refine AWP.weak (rn []) ?_ (Zx (s.toList == (ByteArray.mk #[99, 108, 97, 115, 115]).toList) _ hF)
    exact (WS.mk (tc Zc) Zb)
   ·refine AWP.seq ?_
    refine ns ?_
    refine nw ?_
    refine Zj hF (fun Zk3 hF => ?_) (fun Zk3 hF => ?_)
    ·refine nw ?_
     refine AWP.weak (rn []) ?_ (Zx (s.toList == (ByteArray.mk #[100, 97, 116, 97]).toList) _ hF)
     exact (WS.mk (tc Zc) Zb)
    ·refine AWP.seq ?_
     refine ns ?_
     refine nw ?_
     refine Zj hF (fun Zta hF => ?_) (fun Zta hF => ?_)
     ·refine nw ?_
      refine AWP.weak (rn []) ?_ (Zx (s.toList == (ByteArray.mk #[100, 101, 114, 105, 118, 105, 110, 103]).toList) _ hF)
      exact (WS.mk (tc Zc) Zb)
     ·refine AWP.seq ?_
      refine ns ?_
      refine nw ?_
      refine Zj hF (fun ZzH hF => ?_) (fun ZzH hF => ?_)
      ·refine nw ?_
       refine AWP.weak (rn []) ?_ (Zx (s.toList == (ByteArray.mk #[100, 111]).toList) _ hF)
       exact (WS.mk (tc Zc) Zb)
      ·refine AWP.seq ?_
       refine ns ?_
       refine nw ?_
       refine Zj hF (fun ZnO hF => ?_) (fun ZnO hF => ?_)
       ·refine nw ?_
        refine AWP.weak (rn []) ?_ (Zx (s.toList == (ByteArray.mk #[101, 108, 115, 101]).toList) _ hF)
        exact (WS.mk (tc Zc) Zb)
       ·refine AWP.seq ?_
        refine ns ?_
        refine nw ?_
        refine Zj hF (fun Zpg hF => ?_) (fun Zpg hF => ?_)
        ·refine nw ?_
         refine AWP.weak (rn []) ?_ (Zx (s.toList == (ByteArray.mk #[104, 105, 100, 105, 110, 103]).toList) _ hF)
         exact (WS.mk (tc Zc) Zb)
        ·refine AWP.seq ?_
         refine ns ?_
         refine nw ?_
         refine Zj hF (fun Zzx hF => ?_) (fun Zzx hF => ?_)
         ·refine nw ?_
          refine AWP.weak (rn []) ?_ (Zx (s.toList == (ByteArray.mk #[105, 102]).toList) _ hF)
          exact (WS.mk (tc Zc) Zb)
         ·refine AWP.seq ?_
          refine ns ?_
          refine nw ?_
          refine Zj hF (fun ZmJ hF => ?_) (fun ZmJ hF => ?_)
          ·refine nw ?_
           refine AWP.weak (rn []) ?_ (Zx (s.toList == (ByteArray.mk #[105, 109, 112, 111, 114, 116]).toList) _ hF)
           exact (WS.mk (tc Zc) Zb)
          ·refine AWP.seq ?_
           refine ns ?_
           refine nw ?_
           refine Zj hF (fun ZoT hF => ?_) (fun ZoT hF => ?_)
           ·refine nw ?_
            refine AWP.weak (rn []) ?_ (Zx (s.toList == (ByteArray.mk #[105, 110]).toList) _ hF)
            exact (WS.mk (tc Zc) Zb)
           ·refine AWP.seq ?_
            refine ns ?_
            refine nw ?_
            refine Zj hF (fun Zz0 hF => ?_) (fun Zz0 hF => ?_)
            ·refine nw ?_
             refine AWP.weak (rn []) ?_ (Zx (s.toList == (ByteArray.mk #[105, 110, 102, 105, 120]).toList) _ hF)
             exact (WS.mk (tc Zc) Zb)
            ·refine AWP.seq ?_
             refine ns ?_
             refine nw ?_
             refine Zj hF (fun ZmF hF => ?_) (fun ZmF hF => ?_)
             ·refine nw ?_
              refine AWP.weak (rn []) ?_ (Zx (s.toList == (ByteArray.mk #[105, 110, 102, 105, 120, 108]).toList) _ hF)
              exact (WS.mk (tc Zc) Zb)
             ·refine AWP.seq ?_
              refine ns ?_
              refine nw ?_
              refine Zj hF (fun ZjL hF => ?_) (fun ZjL hF => ?_)
              ·refine nw ?_
               refine AWP.weak (rn []) ?_ (Zx (s.toList == (ByteArray.mk #[105, 110, 102, 105, 120, 114]).toList) _ hF)
               exact (WS.mk (tc Zc) Zb)
              ·refine AWP.seq ?_
               refine ns ?_
               refine nw ?_
               refine Zj hF (fun Zpe hF => ?_) (fun Zpe hF => ?_)
               ·refine nw ?_
                refine AWP.weak (rn []) ?_ (Zx (s.toList == (ByteArray.mk #[105, 110, 115, 116, 97, 110, 99, 101]).toList) _ hF)
                exact (WS.mk (tc Zc) Zb)
               ·refine AWP.seq ?_
                refine ns ?_
                refine nw ?_
                refine Zj hF (fun ZrP hF => ?_) (fun ZrP hF => ?_)
                ·refine nw ?_
                 refine AWP.weak (rn []) ?_ (Zx (s.toList == (ByteArray.mk #[108, 101, 116]).toList) _ hF)
                 exact (WS.mk (tc Zc) Zb)
                ·refine AWP.seq ?_
                 refine ns ?_
                 refine nw ?_
                 refine Zj hF (fun Zje hF => ?_) (fun Zje hF => ?_)
                 ·refine nw ?_
                  refine AWP.weak (rn []) ?_ (Zx (s.toList == (ByteArray.mk #[109, 111, 100, 117, 108, 101]).toList) _ hF)
                  exact (WS.mk (tc Zc) Zb)
                 ·refine AWP.seq ?_
                  refine ns ?_
                  refine nw ?_
                  refine Zj hF (fun ZqL hF => ?_) (fun ZqL hF => ?_)
                  ·refine nw ?_
                   refine AWP.weak (rn []) ?_ (Zx (s.toList == (ByteArray.mk #[111, 102]).toList) _ hF)
                   exact (WS.mk (tc Zc) Zb)
                  ·refine AWP.seq ?_
                   refine ns ?_
                   refine nw ?_
                   refine Zj hF (fun ZvZ hF => ?_) (fun ZvZ hF => ?_)
                   ·refine nw ?_
                    refine AWP.weak (rn []) ?_ (Zx (s.toList == (ByteArray.mk #[113, 117, 97, 108, 105, 102, 105, 101, 100]).toList) _ hF)
                    exact (WS.mk (tc Zc) Zb)
                   ·refine AWP.seq ?_
                    refine ns ?_
                    refine nw ?_
                    refine Zj hF (fun Zv5 hF => ?_) (fun Zv5 hF => ?_)
                    ·refine nw ?_
                     refine AWP.weak (rn []) ?_ (Zx (s.toList == (ByteArray.mk #[116, 104, 101, 110]).toList) _ hF)
                     exact (WS.mk (tc Zc) Zb)
                    ·refine AWP.seq ?_
                     refine ns ?_
                     refine nw ?_
                     refine Zj hF (fun ZCT hF => ?_) (fun ZCT hF => ?_)
                     ·refine nw ?_
                      refine AWP.weak (rn []) ?_ (Zx (s.toList == (ByteArray.mk #[119, 104, 101, 114, 101]).toList) _ hF)
                      exact (WS.mk (tc Zc) Zb)
                     ·refine ns ?_
                      refine AWP.weak (rn []) ?_ (Zx (s.toList == (ByteArray.mk #[95]).toList) _ hF)
                      exact (WS.mk (tc Zc) Zb)

def ZdA (c : Int) : Option (Bool) :=
 strings_IndexByte (ByteArray.mk #[33, 35, 36, 37, 38, 42, 43, 46, 47, 60, 61, 62, 63, 64, 92, 94, 124, 45, 126, 58]) c >>= fun r1 =>
 some (decide (r1 ≥ 0))
def ZdA.M (c : Int) (r : Bool) : Prop :=
 Zk Tryz.prog 137 [.c none (.v (.int .u8 c))] [] (fun d b => d = .c none (.v (.bool r)) ∧ b = [])
theorem Zoe (c : Int) (r : Bool) (hF : ZdA c = some r) : ZdA.M c r := by
 unfold ZdA at hF
 unfold ZdA.M
 refine en Tryz.func137 ?_
 refine AWP.seq ?_
 refine ns ?_
 refine AWP.seq ?_
 obtain ⟨r1, hr1, hF⟩ := bind_some hF
 refine ns ?_
 refine e3 ?_
 refine st ?_
 refine cm (Zk.weak (rn []) (Zlt (ByteArray.mk #[33, 35, 36, 37, 38, 42, 43, 46, 47, 60, 61, 62, 63, 64, 92, 94, 124, 45, 126, 58]) c _ hr1) rfl (WS.mk (tc (tc Zc)) Zb)) ?_
 refine st ?_
 obtain rfl := Zg hF
 refine ns ?_
 refine Exists.intro [] ?_
 refine st ?_
 exact wx (WS.mk (tc Zc) Zb)

def ZbJ (s : ByteArray) (Zbl : Nat) (i_4 : Nat) : Option (Bool) :=
 if (((i_4 : Nat) : Int) == ((s.size : Nat) : Int)) = true then
 some ((((s.size : Nat) : Int) == 1) || (decide (((Zbl : Nat) : Int) < ((s.size : Nat) : Int))))
 else
 (btI s ((i_4 : Nat) : Int)) >>= fun y69 =>
 ZdA ((y69.toNat : Nat) : Int) >>= fun r70 =>
 if (!r70) = true then
 some false
 else
 (btI s ((i_4 : Nat) : Int)) >>= fun y72 =>
 if (((y72.toNat : Nat) : Int) == 45) = true then
 ZK (Zbl + 1 ≤ 9223372036854775807) >>= fun _ =>
 ZK (i_4 + 1 ≤ 9223372036854775807) >>= fun _ =>
 ZbJ s (Zbl + 1) (i_4 + 1)
 else
 ZK (i_4 + 1 ≤ 9223372036854775807) >>= fun _ =>
 ZbJ s Zbl (i_4 + 1)
 partial_fixpoint
def ZbJ.M (s : ByteArray) (Zbl : Nat) (i_4 : Nat) (r : Bool) : Prop :=
 AWL Tryz.prog 38 (Code.sub (Zq Tryz.f121) [1, 0, 1, 1, 1, 0, 1, 0, 0]) (Code.cont Tryz.prog 38 (Zq Tryz.f121) [1, 0, 1, 1, 1, 0, 1, 0] (ZbS tab Tryz.f121.results (ZbX (.c none (.v (.bool r))) []))) ⟨[(0, .c none (.v (.string s))), (3, .c none (.v (.int .i64 ((Zbl : Nat) : Int)))), (4, .c none (.v (.int .i64 ((i_4 : Nat) : Int))))], []⟩
theorem Zm6 (s : ByteArray) (Zbl : Nat) (i_4 : Nat) : ∀ r, ZbJ s Zbl i_4 = some r → ZbJ.M s Zbl i_4 r := by
 refine ZbJ.partial_correctness s (fun Zbl i_4 r => ZbJ.M s Zbl i_4 r) ?_ Zbl i_4
 intro names_symbol_l1' Zig Zbl i_4 r hF
 have ZiV := fun (_s : ByteArray) (Zbl : Nat) (i_4 : Nat) => Zig Zbl i_4
 clear Zig
 unfold ZbJ.M
 refine AWL.step ?_
 refine AWP.seq ?_
 refine AWP.block ?_
 refine AWP.seq ?_
 refine AWP.seq ?_
 refine ns ?_
 refine nw ?_
 refine Zj hF (fun Zqp hF => ?_) (fun Zqp hF => ?_)
 ·refine nw ?_
  refine AWP.seq ?_
  refine AWP.cutN (fun T => ∃ r, WS r T ⟨[(2, .c none (.v (.bool ((((s.size : Nat) : Int) == 1) || (decide (((Zbl : Nat) : Int) < ((s.size : Nat) : Int)))))))], []⟩) ?_ (fun T hw => ?_)
  ·refine ns ?_
   refine Zl false (fun ZnG => ?_) (fun ZnG => ?_)
   ·(conv => whnf)
    refine st ?_
    exact wx (WS.mk (Zd (Zs (web ZnG)) Zc) Zb)
   ·(conv => whnf)
    refine st ?_
    exact wx (WS.mk (Zd (Zs (web ZnG)) Zc) Zb)
  obtain ⟨r0, hw⟩ := hw
  (conv => whnf)
  refine AWP.weak r0 hw ?_
  obtain rfl := Zg hF
  refine ns ?_
  refine Exists.intro [] ?_
  refine st ?_
  exact wx (WS.mk (tc Zc) Zb)
 ·refine nw ?_
  refine AWP.seq ?_
  refine AWP.seq ?_
  obtain ⟨y69, hy690, ZIg, hF⟩ := ZcB hF
  obtain ⟨r70, ZDV, hF⟩ := bind_some hF
  refine nn ?_
  refine sr ZIg ?_
  refine st ?_
  refine e3 ?_
  refine st ?_
  refine cm (Zk.weak (rn []) (Zoe ((y69.toNat : Nat) : Int) _ ZDV) rfl (WS.mk (tc Zc) Zb)) ?_
  refine st ?_
  refine nw ?_
  refine Zj hF (fun ZIh hF => ?_) (fun ZIh hF => ?_)
  ·refine AWP.seq ?_
   refine ns ?_
   obtain rfl := Zg hF
   refine ns ?_
   refine Exists.intro [] ?_
   refine st ?_
   exact wx (WS.mk (tc Zc) Zb)
  ·refine nw ?_
   refine AWP.seq ?_
   obtain ⟨y72, hy720, ZHp, hF⟩ := ZcB hF
   refine nn ?_
   refine sr ZHp ?_
   refine st ?_
   refine nw ?_
   refine Zj hF (fun ZG2 hF => ?_) (fun ZG2 hF => ?_)
   ·obtain ⟨ZDs, hF⟩ := Zy hF
    refine ns ?_
    obtain ⟨ZDk, hF⟩ := Zy hF
    refine ns ?_
    refine AWL.weak (rn []) ?_ (ZiV s (Zbl + 1) (i_4 + 1) _ hF)
    exact (WS.mk (tc (Zd (Zs (Zdd (Zc8 ZDs))) (Zd (Zs (Zdd (Zc8 ZDk))) Zc))) Zb)
   ·refine nw ?_
    obtain ⟨ZHt, hF⟩ := Zy hF
    refine ns ?_
    refine AWL.weak (rn []) ?_ (ZiV s Zbl (i_4 + 1) _ hF)
    exact (WS.mk (tc (tc (Zd (Zs (Zdd (Zc8 ZHt))) Zc))) Zb)

def Zds (s : ByteArray) : Option (Bool) :=
 if ((s.toList == (ByteArray.mk #[]).toList) || (decide (((s.size : Nat) : Int) > 64))) = true then
 some false
 else
 ZbJ s 0 0
def Zds.M (s : ByteArray) (r : Bool) : Prop :=
 Zk Tryz.prog 121 [.c none (.v (.string s))] [] (fun d b => d = .c none (.v (.bool r)) ∧ b = [])
theorem Zgm (s : ByteArray) (r : Bool) (hF : Zds s = some r) : Zds.M s r := by
 unfold Zds at hF
 unfold Zds.M
 refine en Tryz.func121 ?_
 refine AWP.seq ?_
 refine ns ?_
 refine AWP.scope ?_
 refine AWP.seq ?_
 refine AWP.seq ?_
 refine AWP.cutN (fun T => ∃ r, WS r T ⟨[(0, .c none (.v (.string s))), (11, .c none (.v (.bool ((s.toList == (ByteArray.mk #[]).toList) || (decide (((s.size : Nat) : Int) > 64))))))], []⟩) ?_ (fun T hw => ?_)
 ·refine ns ?_
  refine Zl false (fun hc2 => ?_) (fun hc2 => ?_)
  ·(conv => whnf)
   refine st ?_
   exact wx (WS.mk (tc (Zd (Zs (web hc2)) Zc)) Zb)
  ·(conv => whnf)
   refine st ?_
   exact wx (WS.mk (tc (Zd (Zs (web hc2)) Zc)) Zb)
 obtain ⟨r0, hw⟩ := hw
 (conv => whnf)
 refine AWP.weak r0 hw ?_
 refine nw ?_
 refine Zj hF (fun hc3 hF => ?_) (fun hc3 hF => ?_)
 ·refine AWP.seq ?_
  refine ns ?_
  obtain rfl := Zg hF
  refine ns ?_
  refine Exists.intro [] ?_
  refine st ?_
  exact wx (WS.mk (tc Zc) Zb)
 ·refine nw ?_
  refine AWP.seq ?_
  refine ns ?_
  refine AWP.seq ?_
  refine nw ?_
  refine AWP.seq ?_
  refine AWP.seq ?_
  refine ns ?_
  refine AWP.block ?_
  refine AWP.loop ?_
  refine AWL.weak (rn []) ?_ (Zm6 s 0 0 _ hF)
  exact (WS.mk (tc (tc (tc Zc))) Zb)

def ZdW (c : Int) : Option (Bool) :=
 some ((decide (c ≥ 65)) && (decide (c ≤ 90)))
def ZdW.M (c : Int) (r : Bool) : Prop :=
 Zk Tryz.prog 120 [.c none (.v (.int .u8 c))] [] (fun d b => d = .c none (.v (.bool r)) ∧ b = [])
theorem Zi2 (c : Int) (r : Bool) (hF : ZdW c = some r) : ZdW.M c r := by
 unfold ZdW at hF
 unfold ZdW.M
 refine en Tryz.func120 ?_
 refine AWP.seq ?_
 refine ns ?_
 refine AWP.seq ?_
 refine AWP.cutN (fun T => ∃ r, WS r T ⟨[(2, .c none (.v (.bool ((decide (c ≥ 65)) && (decide (c ≤ 90))))))], []⟩) ?_ (fun T hw => ?_)
 ·refine ns ?_
  refine Zl true (fun hc1 => ?_) (fun hc1 => ?_)
  ·(conv => whnf)
   refine st ?_
   exact wx (WS.mk (Zd (Zs (web hc1)) Zc) Zb)
  ·(conv => whnf)
   refine st ?_
   exact wx (WS.mk (Zd (Zs (web hc1)) Zc) Zb)
 obtain ⟨r0, hw⟩ := hw
 (conv => whnf)
 refine AWP.weak r0 hw ?_
 obtain rfl := Zg hF
 refine ns ?_
 refine Exists.intro [] ?_
 refine st ?_
 exact wx (WS.mk (tc Zc) Zb)

def ZdT (c : Int) : Option (Bool) :=
 ZdW c >>= fun r1 =>
 some (r1 || ((decide (c ≥ 97)) && (decide (c ≤ 122))))
def ZdT.M (c : Int) (r : Bool) : Prop :=
 Zk Tryz.prog 135 [.c none (.v (.int .u8 c))] [] (fun d b => d = .c none (.v (.bool r)) ∧ b = [])
theorem Zla (c : Int) (r : Bool) (hF : ZdT c = some r) : ZdT.M c r := by
 unfold ZdT at hF
 unfold ZdT.M
 refine en Tryz.func135 ?_
 refine AWP.seq ?_
 refine ns ?_
 refine AWP.seq ?_
 obtain ⟨r1, hr1, hF⟩ := bind_some hF
 refine AWP.cutN (fun T => ∃ r, WS r T ⟨[(2, .c none (.v (.bool (r1 || ((decide (c ≥ 97)) && (decide (c ≤ 122)))))))], []⟩) ?_ (fun T hw => ?_)
 ·refine ns ?_
  refine e3 ?_
  refine st ?_
  refine cm (Zk.weak (rn []) (Zi2 c _ hr1) rfl (WS.mk (tc Zc) Zb)) ?_
  refine st ?_
  refine Zl false (fun hc2 => ?_) (fun hc2 => ?_)
  ·(conv => whnf)
   refine st ?_
   exact wx (WS.mk (Zd (Zs (web hc2)) Zc) Zb)
  ·(conv => whnf)
   refine st ?_
   refine Zl true (fun hc3 => ?_) (fun hc3 => ?_)
   ·(conv => whnf)
    refine st ?_
    exact wx (WS.mk (Zd (Zs (web (And.intro hc2 hc3))) Zc) Zb)
   ·(conv => whnf)
    refine st ?_
    exact wx (WS.mk (Zd (Zs (web (And.intro hc2 hc3))) Zc) Zb)
 obtain ⟨r0, hw⟩ := hw
 (conv => whnf)
 refine AWP.weak r0 hw ?_
 obtain rfl := Zg hF
 refine ns ?_
 refine Exists.intro [] ?_
 refine st ?_
 exact wx (WS.mk (tc Zc) Zb)

def ZeM (c : Int) : Option (Bool) :=
 some ((decide (c ≥ 48)) && (decide (c ≤ 57)))
def ZeM.M (c : Int) (r : Bool) : Prop :=
 Zk Tryz.prog 136 [.c none (.v (.int .u8 c))] [] (fun d b => d = .c none (.v (.bool r)) ∧ b = [])
theorem Zru (c : Int) (r : Bool) (hF : ZeM c = some r) : ZeM.M c r := by
 unfold ZeM at hF
 unfold ZeM.M
 refine en Tryz.func136 ?_
 refine AWP.seq ?_
 refine ns ?_
 refine AWP.seq ?_
 refine AWP.cutN (fun T => ∃ r, WS r T ⟨[(2, .c none (.v (.bool ((decide (c ≥ 48)) && (decide (c ≤ 57))))))], []⟩) ?_ (fun T hw => ?_)
 ·refine ns ?_
  refine Zl true (fun hc1 => ?_) (fun hc1 => ?_)
  ·(conv => whnf)
   refine st ?_
   exact wx (WS.mk (Zd (Zs (web hc1)) Zc) Zb)
  ·(conv => whnf)
   refine st ?_
   exact wx (WS.mk (Zd (Zs (web hc1)) Zc) Zb)
 obtain ⟨r0, hw⟩ := hw
 (conv => whnf)
 refine AWP.weak r0 hw ?_
 obtain rfl := Zg hF
 refine ns ?_
 refine Exists.intro [] ?_
 refine st ?_
 exact wx (WS.mk (tc Zc) Zb)

def ZcR (s : ByteArray) (i_3 : Nat) : Option (Bool) :=
 if (decide (((i_3 : Nat) : Int) < ((s.size : Nat) : Int))) = true then
 (btI s ((i_3 : Nat) : Int)) >>= fun y33 =>
 ZdT ((y33.toNat : Nat) : Int) >>= fun r34 =>
 (if (!r34) = true then ZeM ((y33.toNat : Nat) : Int) >>= fun r35 =>
 some (!r35) else some false) >>= fun c36 =>
 if ((c36 && (((y33.toNat : Nat) : Int) != 95)) && (((y33.toNat : Nat) : Int) != 39)) = true then
 some false
 else
 ZK (i_3 + 1 ≤ 9223372036854775807) >>= fun _ =>
 ZcR s (i_3 + 1)
 else
 some true
 partial_fixpoint
def ZcR.M (s : ByteArray) (i_3 : Nat) (r : Bool) : Prop :=
 AWL Tryz.prog 48 (Code.sub (Zq Tryz.f119) [1, 1, 0, 1, 0, 0]) (Code.cont Tryz.prog 48 (Zq Tryz.f119) [1, 1, 0, 1, 0] (ZbS tab Tryz.f119.results (ZbX (.c none (.v (.bool r))) []))) ⟨[(0, .c none (.v (.string s))), (3, .c none (.v (.int .i64 ((i_3 : Nat) : Int))))], []⟩
theorem ZoN (s : ByteArray) (i_3 : Nat) : ∀ r, ZcR s i_3 = some r → ZcR.M s i_3 r := by
 refine ZcR.partial_correctness s (fun i_3 r => ZcR.M s i_3 r) ?_ i_3
 intro names_word_l1' Zjj i_3 r hF
 have ZoO := fun (_s : ByteArray) (i_3 : Nat) => Zjj i_3
 clear Zjj
 unfold ZcR.M
 refine AWL.step ?_
 refine AWP.seq ?_
 refine AWP.seq ?_
 refine ns ?_
 refine nw ?_
 refine Zj hF (fun ZmJ hF => ?_) (fun ZmJ hF => ?_)
 ·refine nw ?_
  refine AWP.seq ?_
  refine AWP.block ?_
  refine AWP.seq ?_
  obtain ⟨y33, hy330, ZHA, hF⟩ := ZcB hF
  refine nn ?_
  refine sr ZHA ?_
  refine st ?_
  refine AWP.seq ?_
  obtain ⟨r34, ZDe, hF⟩ := bind_some hF
  obtain ⟨c36, ZjL, hF⟩ := bind_some hF
  refine AWP.cutN (fun T => ∃ r, WS r T ⟨[(0, .c none (.v (.string s))), (3, .c none (.v (.int .i64 ((i_3 : Nat) : Int)))), (47, .c none (.v (.bool ((c36 && (((y33.toNat : Nat) : Int) != 95)) && (((y33.toNat : Nat) : Int) != 39)))))], []⟩) ?_ (fun T hw => ?_)
  ·refine ns ?_
   refine e3 ?_
   refine st ?_
   refine cm (Zk.weak (rn []) (Zla ((y33.toNat : Nat) : Int) _ ZDe) rfl (WS.mk (tc Zc) Zb)) ?_
   refine st ?_
   refine Zl true (fun Zpe => ?_) (fun Zpe => ?_)
   ·have ZjL := ift Zpe ZjL
    obtain ⟨r35, ZDB, ZjL⟩ := bind_some ZjL
    (conv => whnf)
    refine st ?_
    refine e3 ?_
    refine st ?_
    refine cm (Zk.weak (rn []) (Zru ((y33.toNat : Nat) : Int) _ ZDB) rfl (WS.mk (tc Zc) Zb)) ?_
    refine st ?_
    obtain rfl := Zg ZjL
    refine st ?_
    refine Zl true (fun ZrP => ?_) (fun ZrP => ?_)
    ·(conv => whnf)
     refine st ?_
     refine Zl true (fun Zje => ?_) (fun Zje => ?_)
     ·(conv => whnf)
      refine st ?_
      exact wx (WS.mk (tc (tc (Zd (Zs (web (And.intro Zpe (And.intro ZrP Zje)))) Zc))) Zb)
     ·(conv => whnf)
      refine st ?_
      exact wx (WS.mk (tc (tc (Zd (Zs (web (And.intro Zpe (And.intro ZrP Zje)))) Zc))) Zb)
    ·(conv => whnf)
     refine st ?_
     exact wx (WS.mk (tc (tc (Zd (Zs (web (And.intro Zpe ZrP))) Zc))) Zb)
   ·have ZjL := ife Zpe ZjL
    (conv => whnf)
    obtain rfl := Zg ZjL
    refine st ?_
    exact wx (WS.mk (tc (tc (Zd (Zs (web Zpe)) Zc))) Zb)
  obtain ⟨r0, hw⟩ := hw
  (conv => whnf)
  refine AWP.weak r0 hw ?_
  refine nw ?_
  refine Zj hF (fun ZqL hF => ?_) (fun ZqL hF => ?_)
  ·refine AWP.seq ?_
   refine ns ?_
   obtain rfl := Zg hF
   refine ns ?_
   refine Exists.intro [] ?_
   refine st ?_
   exact wx (WS.mk (tc Zc) Zb)
  ·refine nw ?_
   obtain ⟨ZIm, hF⟩ := Zy hF
   refine ns ?_
   refine AWL.weak (rn []) ?_ (ZoO s (i_3 + 1) _ hF)
   exact (WS.mk (tc (Zd (Zs (Zdd (Zc8 ZIm))) Zc)) Zb)
 ·refine nw ?_
  refine AWP.seq ?_
  refine ns ?_
  obtain rfl := Zg hF
  refine ns ?_
  refine Exists.intro [] ?_
  refine st ?_
  exact wx (WS.mk (tc Zc) Zb)

def Zd4 (s : ByteArray) : Option (Bool) :=
 (if ((s.toList == (ByteArray.mk #[]).toList) || (decide (((s.size : Nat) : Int) > 64))) = true then some true else (btI s 0) >>= fun y7 =>
 ZdT ((y7.toNat : Nat) : Int) >>= fun r8 =>
 (if (!r8) = true then (btI s 0) >>= fun y9 =>
 some (((y9.toNat : Nat) : Int) != 95) else some false) >>= fun c10 =>
 some c10) >>= fun c11 =>
 if c11 = true then
 some false
 else
 ZcR s 0
def Zd4.M (s : ByteArray) (r : Bool) : Prop :=
 Zk Tryz.prog 119 [.c none (.v (.string s))] [] (fun d b => d = .c none (.v (.bool r)) ∧ b = [])
theorem ZhO (s : ByteArray) (r : Bool) (hF : Zd4 s = some r) : Zd4.M s r := by
 unfold Zd4 at hF
 unfold Zd4.M
 refine en Tryz.func119 ?_
 refine AWP.seq ?_
 refine ns ?_
 refine AWP.seq ?_
 refine AWP.seq ?_
 obtain ⟨c11, Zct, hF⟩ := bind_some hF
 refine AWP.cutN (fun T => ∃ r, WS r T ⟨[(0, .c none (.v (.string s))), (22, .c none (.v (.bool c11)))], []⟩) ?_ (fun T hw => ?_)
 ·refine ns ?_
  refine Zl false (fun Zd9 => ?_) (fun Zd9 => ?_)
  ·(conv => whnf)
   have Zct := ift Zd9 Zct
   obtain rfl := Zg Zct
   refine st ?_
   exact wx (WS.mk (tc (Zd (Zs (web Zd9)) Zc)) Zb)
  ·(conv => whnf)
   refine st ?_
   refine Zl false (fun Zcx => ?_) (fun Zcx => ?_)
   ·have Zct := ift (And.intro Zd9 Zcx) Zct
    (conv => whnf)
    obtain rfl := Zg Zct
    refine st ?_
    exact wx (WS.mk (tc (Zd (Zs (web (And.intro Zd9 Zcx))) Zc)) Zb)
   ·have Zct := ife (And.intro Zd9 Zcx) Zct
    obtain ⟨y7, hy70, hy7, Zct⟩ := ZcB Zct
    obtain ⟨r8, hr8, Zct⟩ := bind_some Zct
    obtain ⟨c10, ZeC, Zct⟩ := bind_some Zct
    (conv => whnf)
    refine sr hy7 ?_
    refine st ?_
    refine e3 ?_
    refine st ?_
    refine cm (Zk.weak (rn []) (Zla ((y7.toNat : Nat) : Int) _ hr8) rfl (WS.mk (tc Zc) Zb)) ?_
    refine st ?_
    refine Zl true (fun Zc5 => ?_) (fun Zc5 => ?_)
    ·have ZeC := ift (And.intro Zd9 (And.intro Zcx Zc5)) ZeC
     obtain ⟨y9, ZGo, hy9, ZeC⟩ := ZcB ZeC
     (conv => whnf)
     refine sr hy9 ?_
     obtain rfl := Zg ZeC
     obtain rfl := Zg Zct
     refine st ?_
     exact wx (WS.mk (tc (Zd (Zs (web (And.intro Zd9 (And.intro Zcx Zc5)))) Zc)) Zb)
    ·have ZeC := ife (And.intro Zd9 (And.intro Zcx Zc5)) ZeC
     (conv => whnf)
     obtain rfl := Zg ZeC
     obtain rfl := Zg Zct
     refine st ?_
     exact wx (WS.mk (tc (Zd (Zs (web (And.intro Zd9 (And.intro Zcx Zc5)))) Zc)) Zb)
 obtain ⟨r0, hw⟩ := hw
 (conv => whnf)
 refine AWP.weak r0 hw ?_
 refine nw ?_
 refine Zj hF (fun Zf2 hF => ?_) (fun Zf2 hF => ?_)
 ·refine AWP.seq ?_
  refine ns ?_
  obtain rfl := Zg hF
  refine ns ?_
  refine Exists.intro [] ?_
  refine st ?_
  exact wx (WS.mk (tc Zc) Zb)
 ·refine nw ?_
  refine AWP.seq ?_
  refine AWP.seq ?_
  refine ns ?_
  refine AWP.block ?_
  refine AWP.loop ?_
  refine AWL.weak (rn []) ?_ (ZoN s 0 _ hF)
  exact (WS.mk (tc (tc Zc)) Zb)

def ZdP (s : ByteArray) : Option (Bool) :=
 Zd4 s >>= fun r1 =>
 (if r1 = true then ZbZ s >>= fun r2 =>
 some (!r2) else some false) >>= fun c3 =>
 (if c3 = true then some true else Zds s >>= fun r4 =>
 (if r4 = true then Zbs s >>= fun r5 =>
 some (!r5) else some false) >>= fun c6 =>
 some c6) >>= fun c7 =>
 some c7
def ZdP.M (s : ByteArray) (r : Bool) : Prop :=
 Zk Tryz.prog 148 [.c none (.v (.string s))] [] (fun d b => d = .c none (.v (.bool r)) ∧ b = [])
theorem Zk6 (s : ByteArray) (r : Bool) (hF : ZdP s = some r) : ZdP.M s r := by
 unfold ZdP at hF
 unfold ZdP.M
 refine en Tryz.func148 ?_
 refine AWP.seq ?_
 refine ns ?_
 refine AWP.seq ?_
 obtain ⟨r1, hr1, hF⟩ := bind_some hF
 obtain ⟨c3, hc3, hF⟩ := bind_some hF
 obtain ⟨c7, hc7, hF⟩ := bind_some hF
 refine AWP.cutN (fun T => ∃ r, WS r T ⟨[(2, .c none (.v (.bool c7)))], []⟩) ?_ (fun T hw => ?_)
 ·refine ns ?_
  refine e3 ?_
  refine st ?_
  refine cm (Zk.weak (rn []) (ZhO s _ hr1) rfl (WS.mk (tc Zc) Zb)) ?_
  refine st ?_
  refine Zl true (fun hc8 => ?_) (fun hc8 => ?_)
  ·have hc3 := ift hc8 hc3
   obtain ⟨r2, hr2, hc3⟩ := bind_some hc3
   (conv => whnf)
   refine st ?_
   refine e3 ?_
   refine st ?_
   refine cm (Zk.weak (rn []) (Zhr s _ hr2) rfl (WS.mk (tc Zc) Zb)) ?_
   refine st ?_
   obtain rfl := Zg hc3
   refine st ?_
   refine Zl false (fun hc9 => ?_) (fun hc9 => ?_)
   ·have hc7 := ift (And.intro hc8 hc9) hc7
    (conv => whnf)
    obtain rfl := Zg hc7
    refine st ?_
    exact wx (WS.mk (Zd (Zs (web (And.intro hc8 hc9))) Zc) Zb)
   ·have hc7 := ife (And.intro hc8 hc9) hc7
    obtain ⟨r4, hr4, hc7⟩ := bind_some hc7
    obtain ⟨c6, hc6, hc7⟩ := bind_some hc7
    (conv => whnf)
    refine st ?_
    refine e3 ?_
    refine st ?_
    refine cm (Zk.weak (rn []) (Zgm s _ hr4) rfl (WS.mk (tc Zc) Zb)) ?_
    refine st ?_
    refine Zl true (fun ZeC => ?_) (fun ZeC => ?_)
    ·have hc6 := ift (And.intro hc8 (And.intro hc9 ZeC)) hc6
     obtain ⟨r5, hr5, hc6⟩ := bind_some hc6
     (conv => whnf)
     refine st ?_
     refine e3 ?_
     refine st ?_
     refine cm (Zk.weak (rn []) (ZeD s _ hr5) rfl (WS.mk (tc Zc) Zb)) ?_
     refine st ?_
     obtain rfl := Zg hc6
     obtain rfl := Zg hc7
     refine st ?_
     exact wx (WS.mk (Zd (Zs (web (And.intro hc8 (And.intro hc9 ZeC)))) Zc) Zb)
    ·have hc6 := ife (And.intro hc8 (And.intro hc9 ZeC)) hc6
     (conv => whnf)
     obtain rfl := Zg hc6
     obtain rfl := Zg hc7
     refine st ?_
     exact wx (WS.mk (Zd (Zs (web (And.intro hc8 (And.intro hc9 ZeC)))) Zc) Zb)
  ·have hc3 := ife hc8 hc3
   (conv => whnf)
   obtain rfl := Zg hc3
   have hc7 := ife hc8 hc7
   obtain ⟨r4, hr4, hc7⟩ := bind_some hc7
   obtain ⟨c6, hc6, hc7⟩ := bind_some hc7
   refine st ?_
   refine e3 ?_
   refine st ?_
   refine cm (Zk.weak (rn []) (Zgm s _ hr4) rfl (WS.mk (tc Zc) Zb)) ?_
   refine st ?_
   refine Zl true (fun Zct => ?_) (fun Zct => ?_)
   ·have hc6 := ift (And.intro hc8 Zct) hc6
    obtain ⟨r5, hr5, hc6⟩ := bind_some hc6
    (conv => whnf)
    refine st ?_
    refine e3 ?_
    refine st ?_
    refine cm (Zk.weak (rn []) (ZeD s _ hr5) rfl (WS.mk (tc Zc) Zb)) ?_
    refine st ?_
    obtain rfl := Zg hc6
    obtain rfl := Zg hc7
    refine st ?_
    exact wx (WS.mk (Zd (Zs (web (And.intro hc8 Zct))) Zc) Zb)
   ·have hc6 := ife (And.intro hc8 Zct) hc6
    (conv => whnf)
    obtain rfl := Zg hc6
    obtain rfl := Zg hc7
    refine st ?_
    exact wx (WS.mk (Zd (Zs (web (And.intro hc8 Zct))) Zc) Zb)
 obtain ⟨r0, hw⟩ := hw
 (conv => whnf)
 refine AWP.weak r0 hw ?_
 obtain rfl := Zg hF
 refine ns ?_
 refine Exists.intro [] ?_
 refine st ?_
 exact wx (WS.mk (tc Zc) Zb)

def ZfI (module : ByteArray) (name_ : ByteArray) : Option (ByteArray) :=
 Zd4 module >>= fun r8 =>
 (if (!r8) = true then some true else (btI module 0) >>= fun y9 =>
 ZdW ((y9.toNat : Nat) : Int) >>= fun r10 =>
 some (!r10)) >>= fun c11 =>
 (if c11 = true then some true else ZdP name_ >>= fun r12 =>
 some (!r12)) >>= fun c13 =>
 if c13 = true then
 some (ByteArray.mk #[])
 else
 ZK (((module.size + (ByteArray.mk #[46]).size : Nat) : Int) ≤ IntKind.i64.max) >>= fun _ =>
 ZK ((((module ++ (ByteArray.mk #[46])).size + name_.size : Nat) : Int) ≤ IntKind.i64.max) >>= fun _ =>
 some ((module ++ (ByteArray.mk #[46])) ++ name_)
def ZfI.M (module : ByteArray) (name_ : ByteArray) (r : ByteArray) : Prop :=
 Zk Tryz.prog 141 [.c none (.v (.string module)), .c none (.v (.string name_))] [] (fun d b => d = .c none (.v (.string r)) ∧ b = [])
theorem ZrT (module : ByteArray) (name_ : ByteArray) (r : ByteArray) (hF : ZfI module name_ = some r) : ZfI.M module name_ r := by
 unfold ZfI at hF
 unfold ZfI.M
 refine en Tryz.func141 ?_
 refine AWP.seq ?_
 refine ns ?_
 refine AWP.seq ?_
 refine AWP.seq ?_
 obtain ⟨r8, hr8, hF⟩ := bind_some hF
 obtain ⟨c11, Zct, hF⟩ := bind_some hF
 obtain ⟨c13, Zcx, hF⟩ := bind_some hF
 refine AWP.cutN (fun T => ∃ r, WS r T ⟨[(0, .c none (.v (.string module))), (1, .c none (.v (.string name_))), (18, .c none (.v (.bool c13)))], []⟩) ?_ (fun T hw => ?_)
 ·refine ns ?_
  refine e3 ?_
  refine st ?_
  refine cm (Zk.weak (rn []) (ZhO module _ hr8) rfl (WS.mk (tc Zc) Zb)) ?_
  refine st ?_
  refine Zl false (fun Zc5 => ?_) (fun Zc5 => ?_)
  ·have Zct := ift Zc5 Zct
   (conv => whnf)
   obtain rfl := Zg Zct
   have Zcx := ift Zc5 Zcx
   obtain rfl := Zg Zcx
   refine st ?_
   exact wx (WS.mk (tc (tc (Zd (Zs (web Zc5)) Zc))) Zb)
  ·have Zct := ife Zc5 Zct
   obtain ⟨y9, ZGo, hy9, Zct⟩ := ZcB Zct
   obtain ⟨r10, Zvq, Zct⟩ := bind_some Zct
   (conv => whnf)
   refine sr hy9 ?_
   refine st ?_
   refine e3 ?_
   refine st ?_
   refine cm (Zk.weak (rn []) (Zi2 ((y9.toNat : Nat) : Int) _ Zvq) rfl (WS.mk (tc Zc) Zb)) ?_
   refine st ?_
   obtain rfl := Zg Zct
   refine st ?_
   refine Zl false (fun Zf2 => ?_) (fun Zf2 => ?_)
   ·have Zcx := ift (And.intro Zc5 Zf2) Zcx
    (conv => whnf)
    obtain rfl := Zg Zcx
    refine st ?_
    exact wx (WS.mk (tc (tc (Zd (Zs (web (And.intro Zc5 Zf2))) Zc))) Zb)
   ·have Zcx := ife (And.intro Zc5 Zf2) Zcx
    obtain ⟨r12, ZAE, Zcx⟩ := bind_some Zcx
    (conv => whnf)
    refine st ?_
    refine e3 ?_
    refine st ?_
    refine cm (Zk.weak (rn []) (Zk6 name_ _ ZAE) rfl (WS.mk (tc Zc) Zb)) ?_
    refine st ?_
    obtain rfl := Zg Zcx
    refine st ?_
    exact wx (WS.mk (tc (tc (Zd (Zs (web (And.intro Zc5 Zf2))) Zc))) Zb)
 obtain ⟨r0, hw⟩ := hw
 (conv => whnf)
 refine AWP.weak r0 hw ?_
 refine nw ?_
 refine Zj hF (fun ZeI hF => ?_) (fun ZeI hF => ?_)
 ·refine AWP.seq ?_
  refine ns ?_
  obtain rfl := Zg hF
  refine ns ?_
  refine Exists.intro [] ?_
  refine st ?_
  exact wx (WS.mk (tc Zc) Zb)
 ·refine nw ?_
  refine AWP.seq ?_
  obtain ⟨ZH8, hF⟩ := Zy hF
  obtain ⟨ZGf, hF⟩ := Zy hF
  refine ns ?_
  refine And.intro ZH8 ?_
  refine st ?_
  refine And.intro ZGf ?_
  refine st ?_
  obtain rfl := Zg hF
  refine ns ?_
  refine Exists.intro [] ?_
  refine st ?_
  exact wx (WS.mk (tc Zc) Zb)

def Zer (s : ByteArray) : Option (ByteArray × ByteArray × Bool) :=
 strings_Cut s (ByteArray.mk #[46]) >>= fun r1 =>
 (if (!r1.2.2) = true then some true else ZfI r1.1 r1.2.1 >>= fun r5 =>
 some (r5.toList == (ByteArray.mk #[]).toList)) >>= fun c6 =>
 if c6 = true then
 some ((ByteArray.mk #[]), (ByteArray.mk #[]), false)
 else
 some (r1.1, r1.2.1, true)
def Zer.M (s : ByteArray) (r : ByteArray × ByteArray × Bool) : Prop :=
 Zk Tryz.prog 127 [.c none (.v (.string s))] [] (fun d b => d = .tup [.c (.v (.string r.1)), .c (.v (.string r.2.1)), .c (.v (.bool r.2.2))] ∧ b = [])
theorem ZlE (s : ByteArray) (r : ByteArray × ByteArray × Bool) (hF : Zer s = some r) : Zer.M s r := by
 unfold Zer at hF
 unfold Zer.M
 refine en Tryz.func127 ?_
 refine AWP.seq ?_
 refine ns ?_
 refine AWP.seq ?_
 obtain ⟨r1, hr1, hF⟩ := bind_some hF
 refine ns ?_
 refine e3 ?_
 refine st ?_
 refine cm (Zk.weak (rn []) (Zq2 s (ByteArray.mk #[46]) _ hr1) rfl (WS.mk (tc (tc Zc)) Zb)) ?_
 refine st ?_
 refine AWP.seq ?_
 refine AWP.seq ?_
 obtain ⟨c6, hc6, hF⟩ := bind_some hF
 refine AWP.cutN (fun T => ∃ r, WS r T ⟨[(5, .c none (.v (.string r1.1))), (6, .c none (.v (.string r1.2.1))), (21, .c none (.v (.bool c6)))], []⟩) ?_ (fun T hw => ?_)
 ·refine ns ?_
  refine Zl false (fun hc7 => ?_) (fun hc7 => ?_)
  ·have hc6 := ift hc7 hc6
   (conv => whnf)
   obtain rfl := Zg hc6
   refine st ?_
   exact wx (WS.mk (tc (tc (Zd (Zs (web hc7)) Zc))) Zb)
  ·have hc6 := ife hc7 hc6
   obtain ⟨r5, hr5, hc6⟩ := bind_some hc6
   (conv => whnf)
   refine st ?_
   refine e3 ?_
   refine st ?_
   refine cm (Zk.weak (rn []) (ZrT r1.1 r1.2.1 _ hr5) rfl (WS.mk (tc (tc Zc)) Zb)) ?_
   refine st ?_
   obtain rfl := Zg hc6
   refine st ?_
   exact wx (WS.mk (tc (tc (Zd (Zs (web hc7)) Zc))) Zb)
 obtain ⟨r0, hw⟩ := hw
 (conv => whnf)
 refine AWP.weak r0 hw ?_
 refine nw ?_
 refine Zj hF (fun hc8 hF => ?_) (fun hc8 hF => ?_)
 ·refine AWP.seq ?_
  refine ns ?_
  obtain rfl := Zg hF
  refine ns ?_
  refine Exists.intro [] ?_
  refine st ?_
  exact wx (WS.mk (Zd (ZdE (Zc6 (WE.refl _) (Zc6 (WE.refl _) (Zc6 (WE.refl _) ZdF)))) Zc) Zb)
 ·refine nw ?_
  refine AWP.seq ?_
  refine ns ?_
  obtain rfl := Zg hF
  refine ns ?_
  refine Exists.intro [] ?_
  refine st ?_
  exact wx (WS.mk (Zd (ZdE (Zc6 (WE.refl _) (Zc6 (WE.refl _) (Zc6 (WE.refl _) ZdF)))) Zc) Zb)

def Zel (s : ByteArray) : Option (Bool) :=
 Zer s >>= fun r1 =>
 (if r1.2.2 = true then some true else ZdP s >>= fun r2 =>
 some r2) >>= fun c3 =>
 some c3
def Zel.M (s : ByteArray) (r : Bool) : Prop :=
 Zk Tryz.prog 134 [.c none (.v (.string s))] [] (fun d b => d = .c none (.v (.bool r)) ∧ b = [])
theorem ZpK (s : ByteArray) (r : Bool) (hF : Zel s = some r) : Zel.M s r := by
 unfold Zel at hF
 unfold Zel.M
 refine en Tryz.func134 ?_
 refine AWP.seq ?_
 refine ns ?_
 refine AWP.seq ?_
 obtain ⟨r1, hr1, hF⟩ := bind_some hF
 refine ns ?_
 refine e3 ?_
 refine st ?_
 refine cm (Zk.weak (rn []) (ZlE s _ hr1) rfl (WS.mk (tc Zc) Zb)) ?_
 refine st ?_
 refine AWP.seq ?_
 obtain ⟨c3, hc3, hF⟩ := bind_some hF
 refine AWP.cutN (fun T => ∃ r, WS r T ⟨[(2, .c none (.v (.bool c3)))], []⟩) ?_ (fun T hw => ?_)
 ·refine ns ?_
  refine Zl false (fun hc4 => ?_) (fun hc4 => ?_)
  ·have hc3 := ift hc4 hc3
   (conv => whnf)
   obtain rfl := Zg hc3
   refine st ?_
   exact wx (WS.mk (Zd (Zs (web hc4)) Zc) Zb)
  ·have hc3 := ife hc4 hc3
   obtain ⟨r2, hr2, hc3⟩ := bind_some hc3
   (conv => whnf)
   refine st ?_
   refine e3 ?_
   refine st ?_
   refine cm (Zk.weak (rn []) (Zk6 s _ hr2) rfl (WS.mk (tc Zc) Zb)) ?_
   refine st ?_
   obtain rfl := Zg hc3
   refine st ?_
   exact wx (WS.mk (Zd (Zs (web hc4)) Zc) Zb)
 obtain ⟨r0, hw⟩ := hw
 (conv => whnf)
 refine AWP.weak r0 hw ?_
 obtain rfl := Zg hF
 refine ns ?_
 refine Exists.intro [] ?_
 refine st ?_
 exact wx (WS.mk (tc Zc) Zb)

def Zfv (base : ByteArray) (n : Int) : Option (ByteArray) :=
 (if (decide (n < 0)) = true then some true else Zel base >>= fun r4 =>
 some (!r4)) >>= fun c5 =>
 if c5 = true then
 some (ByteArray.mk #[])
 else
 ZK (((base.size + (ByteArray.mk #[36]).size : Nat) : Int) ≤ IntKind.i64.max) >>= fun _ =>
 strconv_Itoa n >>= fun r9 =>
 ZK ((((base ++ (ByteArray.mk #[36])).size + r9.size : Nat) : Int) ≤ IntKind.i64.max) >>= fun _ =>
 some ((base ++ (ByteArray.mk #[36])) ++ r9)
def Zfv.M (base : ByteArray) (n : Int) (r : ByteArray) : Prop :=
 Zk Tryz.prog 116 [.c none (.v (.string base)), .c none (.v (.int .i64 n))] [] (fun d b => d = .c none (.v (.string r)) ∧ b = [])
theorem ZrZ (base : ByteArray) (n : Int) (r : ByteArray) (hF : Zfv base n = some r) : Zfv.M base n r := by
 unfold Zfv at hF
 unfold Zfv.M
 refine en Tryz.func116 ?_
 refine AWP.seq ?_
 refine ns ?_
 refine AWP.seq ?_
 refine AWP.seq ?_
 obtain ⟨c5, hc5, hF⟩ := bind_some hF
 refine AWP.cutN (fun T => ∃ r, WS r T ⟨[(0, .c none (.v (.string base))), (1, .c none (.v (.int .i64 n))), (11, .c none (.v (.bool c5)))], []⟩) ?_ (fun T hw => ?_)
 ·refine ns ?_
  refine Zl false (fun hc6 => ?_) (fun hc6 => ?_)
  ·have hc5 := ift hc6 hc5
   (conv => whnf)
   obtain rfl := Zg hc5
   refine st ?_
   exact wx (WS.mk (tc (tc (Zd (Zs (web hc6)) Zc))) Zb)
  ·have hc5 := ife hc6 hc5
   obtain ⟨r4, hr4, hc5⟩ := bind_some hc5
   (conv => whnf)
   refine st ?_
   refine e3 ?_
   refine st ?_
   refine cm (Zk.weak (rn []) (ZpK base _ hr4) rfl (WS.mk (tc Zc) Zb)) ?_
   refine st ?_
   obtain rfl := Zg hc5
   refine st ?_
   exact wx (WS.mk (tc (tc (Zd (Zs (web hc6)) Zc))) Zb)
 obtain ⟨r0, hw⟩ := hw
 (conv => whnf)
 refine AWP.weak r0 hw ?_
 refine nw ?_
 refine Zj hF (fun hc7 hF => ?_) (fun hc7 hF => ?_)
 ·refine AWP.seq ?_
  refine ns ?_
  obtain rfl := Zg hF
  refine ns ?_
  refine Exists.intro [] ?_
  refine st ?_
  exact wx (WS.mk (tc Zc) Zb)
 ·refine nw ?_
  refine AWP.seq ?_
  obtain ⟨hg8, hF⟩ := Zy hF
  obtain ⟨r9, hr9, hF⟩ := bind_some hF
  obtain ⟨ZyP, hF⟩ := Zy hF
  refine ns ?_
  refine And.intro hg8 ?_
  refine st ?_
  refine e3 ?_
  refine st ?_
  refine cm (Zk.weak (rn []) (Zk8 n _ hr9) rfl (WS.mk (tc Zc) Zb)) ?_
  refine st ?_
  refine And.intro ZyP ?_
  refine st ?_
  obtain rfl := Zg hF
  refine ns ?_
  refine Exists.intro [] ?_
  refine st ?_
  exact wx (WS.mk (tc Zc) Zb)

def ZN (s : ByteArray) (c : Int) (i_5 : Int) : Option (Int) :=
 if (decide (i_5 ≥ 0)) = true then
 (btI s i_5) >>= fun y11 =>
 if (((y11.toNat : Nat) : Int) == c) = true then
 some i_5
 else
 ZN s c (IntKind.i64.wrap (i_5 - 1))
 else
 some (-1)
 partial_fixpoint
def ZN.M (s : ByteArray) (c : Int) (i_5 : Int) (r : Int) : Prop :=
 AWL Tryz.prog 19 (Code.sub (Zq Tryz.f131) [1, 0, 1, 0, 0]) (Code.cont Tryz.prog 19 (Zq Tryz.f131) [1, 0, 1, 0] (ZbS tab Tryz.f131.results (ZbX (.c none (.v (.int .i64 r))) []))) ⟨[(0, .c none (.v (.string s))), (1, .c none (.v (.int .u8 c))), (5, .c none (.v (.int .i64 i_5)))], []⟩
theorem Zf4 (s : ByteArray) (c : Int) (i_5 : Int) : ∀ r, ZN s c i_5 = some r → ZN.M s c i_5 r := by
 refine ZN.partial_correctness s c (fun i_5 r => ZN.M s c i_5 r) ?_ i_5
 intro i_bytealg_LastIndexByteString_l1' ZdL i_5 r hF
 have Zga := fun (_s : ByteArray) (_c : Int) (i_5 : Int) => ZdL i_5
 clear ZdL
 unfold ZN.M
 refine AWL.step ?_
 refine AWP.seq ?_
 refine AWP.seq ?_
 refine ns ?_
 refine nw ?_
 refine Zj hF (fun ZeC hF => ?_) (fun ZeC hF => ?_)
 ·refine nw ?_
  refine AWP.seq ?_
  refine AWP.block ?_
  refine AWP.seq ?_
  obtain ⟨y11, hy110, ZHs, hF⟩ := ZcB hF
  refine nn ?_
  refine sr ZHs ?_
  refine st ?_
  refine nw ?_
  refine Zj hF (fun Zd9 hF => ?_) (fun Zd9 hF => ?_)
  ·refine AWP.seq ?_
   refine ns ?_
   obtain rfl := Zg hF
   refine ns ?_
   refine Exists.intro [] ?_
   refine st ?_
   exact wx (WS.mk (tc Zc) Zb)
  ·refine nw ?_
   refine ns ?_
   refine AWL.weak (rn []) ?_ (Zga s c (IntKind.i64.wrap (i_5 - 1)) _ hF)
   exact (WS.mk (tc (tc (tc Zc))) Zb)
 ·refine nw ?_
  refine AWP.seq ?_
  refine ns ?_
  obtain rfl := Zg hF
  refine ns ?_
  refine Exists.intro [] ?_
  refine st ?_
  exact wx (WS.mk (tc Zc) Zb)

def ZaM (s : ByteArray) (c : Int) : Option (Int) :=
 ZN s c (IntKind.i64.wrap (((s.size : Nat) : Int) - 1))
def ZaM.M (s : ByteArray) (c : Int) (r : Int) : Prop :=
 Zk Tryz.prog 131 [.c none (.v (.string s)), .c none (.v (.int .u8 c))] [] (fun d b => d = .c none (.v (.int .i64 r)) ∧ b = [])
theorem Zhi (s : ByteArray) (c : Int) (r : Int) (hF : ZaM s c = some r) : ZaM.M s c r := by
 unfold ZaM at hF
 unfold ZaM.M
 refine en Tryz.func131 ?_
 refine AWP.seq ?_
 refine ns ?_
 refine AWP.seq ?_
 refine AWP.seq ?_
 refine ns ?_
 refine AWP.block ?_
 refine AWP.loop ?_
 refine AWL.weak (rn []) ?_ (Zf4 s c (IntKind.i64.wrap (((s.size : Nat) : Int) - 1)) _ hF)
 exact (WS.mk (tc (tc (tc Zc))) Zb)

def ZbE (s : ByteArray) (c : Int) : Option (Int) :=
 ZaM s c >>= fun r1 =>
 some r1
def ZbE.M (s : ByteArray) (c : Int) (r : Int) : Prop :=
 Zk Tryz.prog 114 [.c none (.v (.string s)), .c none (.v (.int .u8 c))] [] (fun d b => d = .c none (.v (.int .i64 r)) ∧ b = [])
theorem ZjJ (s : ByteArray) (c : Int) (r : Int) (hF : ZbE s c = some r) : ZbE.M s c r := by
 unfold ZbE at hF
 unfold ZbE.M
 refine en Tryz.func114 ?_
 refine AWP.seq ?_
 refine ns ?_
 refine AWP.seq ?_
 obtain ⟨r1, hr1, hF⟩ := bind_some hF
 refine ns ?_
 refine e3 ?_
 refine st ?_
 refine cm (Zk.weak (rn []) (Zhi s c _ hr1) rfl (WS.mk (tc (tc Zc)) Zb)) ?_
 refine st ?_
 obtain rfl := Zg hF
 refine ns ?_
 refine Exists.intro [] ?_
 refine st ?_
 exact wx (WS.mk (tc Zc) Zb)

def Zeu (s : ByteArray) : Option (ByteArray × Int × Bool) :=
 ZbE s 36 >>= fun r1 =>
 if (decide (r1 < 0)) = true then
 some ((ByteArray.mk #[]), 0, false)
 else
 (slS s (IntKind.i64.wrap (r1 + 1)) ((s.size : Nat) : Int)) >>= fun z4 =>
 ZeW z4 >>= fun r5 =>
 (if r5.2 = true then some true else (slS s ((0 : Nat) : Int) r1) >>= fun z10 =>
 Zfv z10 r5.1 >>= fun r11 =>
 some (!(r11.toList == s.toList))) >>= fun c12 =>
 if c12 = true then
 some ((ByteArray.mk #[]), 0, false)
 else
 (slS s ((0 : Nat) : Int) r1) >>= fun z15 =>
 some (z15, r5.1, true)
def Zeu.M (s : ByteArray) (r : ByteArray × Int × Bool) : Prop :=
 Zk Tryz.prog 92 [.c none (.v (.string s))] [] (fun d b => d = .tup [.c (.v (.string r.1)), .c (.v (.int .i64 r.2.1)), .c (.v (.bool r.2.2))] ∧ b = [])
theorem ZjA (s : ByteArray) (r : ByteArray × Int × Bool) (hF : Zeu s = some r) : Zeu.M s r := by
 unfold Zeu at hF
 unfold Zeu.M
 refine en Tryz.func92 ?_
 refine AWP.seq ?_
 refine ns ?_
 refine AWP.seq ?_
 obtain ⟨r1, hr1, hF⟩ := bind_some hF
 refine ns ?_
 refine e3 ?_
 refine st ?_
 refine cm (Zk.weak (rn []) (ZjJ s 36 _ hr1) rfl (WS.mk (tc (tc Zc)) Zb)) ?_
 refine st ?_
 refine AWP.seq ?_
 refine AWP.seq ?_
 refine ns ?_
 refine nw ?_
 refine Zj hF (fun hc3 hF => ?_) (fun hc3 hF => ?_)
 ·refine AWP.seq ?_
  refine ns ?_
  obtain rfl := Zg hF
  refine ns ?_
  refine Exists.intro [] ?_
  refine st ?_
  exact wx (WS.mk (Zd (ZdE (Zc6 (WE.refl _) (Zc6 (WE.refl _) (Zc6 (WE.refl _) ZdF)))) Zc) Zb)
 ·refine nw ?_
  refine AWP.seq ?_
  obtain ⟨z4, ZHI, ZCb, ZG3, hz4, hF⟩ := ZfG hF
  obtain ⟨r5, hr5, hF⟩ := bind_some hF
  refine nn ?_
  refine s3 ZHI ZCb ZG3 ?_
  rw [← hz4]
  refine st ?_
  refine e3 ?_
  refine st ?_
  refine cm (Zk.weak (rn []) (strconv_Atoi_ok z4 _ hr5) rfl (WS.mk (tc Zc) Zb)) ?_
  refine st ?_
  refine AWP.seq ?_
  refine AWP.seq ?_
  obtain ⟨c12, Zd9, hF⟩ := bind_some hF
  refine AWP.cutN (fun T => ∃ r, WS r T ⟨[(0, .c none (.v (.string s))), (3, .c none (.v (.int .i64 r5.1))), (5, .c none (.v (.int .i64 r1))), (29, .c none (.v (.bool c12)))], []⟩) ?_ (fun T hw => ?_)
  ·refine ns ?_
   refine Zl false (fun Zcx => ?_) (fun Zcx => ?_)
   ·have Zd9 := ift Zcx Zd9
    (conv => whnf)
    obtain rfl := Zg Zd9
    refine st ?_
    exact wx (WS.mk (tc (tc (tc (Zd (Zs (web Zcx)) Zc)))) Zb)
   ·have Zd9 := ife Zcx Zd9
    obtain ⟨z10, ZEr, ZE9, ZFy, ZId, Zd9⟩ := ZfG Zd9
    obtain ⟨r11, Zvo, Zd9⟩ := bind_some Zd9
    (conv => whnf)
    refine s3 ZEr ZE9 ZFy ?_
    rw [← ZId]
    refine st ?_
    refine e3 ?_
    refine st ?_
    refine cm (Zk.weak (rn []) (ZrZ z10 r5.1 _ Zvo) rfl (WS.mk (tc (tc Zc)) Zb)) ?_
    refine st ?_
    obtain rfl := Zg Zd9
    refine st ?_
    exact wx (WS.mk (tc (tc (tc (Zd (Zs (web Zcx)) Zc)))) Zb)
  obtain ⟨r0, hw⟩ := hw
  (conv => whnf)
  refine AWP.weak r0 hw ?_
  refine nw ?_
  refine Zj hF (fun Zc5 hF => ?_) (fun Zc5 hF => ?_)
  ·refine AWP.seq ?_
   refine ns ?_
   obtain rfl := Zg hF
   refine ns ?_
   refine Exists.intro [] ?_
   refine st ?_
   exact wx (WS.mk (Zd (ZdE (Zc6 (WE.refl _) (Zc6 (WE.refl _) (Zc6 (WE.refl _) ZdF)))) Zc) Zb)
  ·refine nw ?_
   refine AWP.seq ?_
   obtain ⟨z15, ZEA, ZFd, ZEm, ZGM, hF⟩ := ZfG hF
   refine nn ?_
   refine s3 ZEA ZFd ZEm ?_
   rw [← ZGM]
   refine st ?_
   obtain rfl := Zg hF
   refine ns ?_
   refine Exists.intro [] ?_
   refine st ?_
   exact wx (WS.mk (Zd (ZdE (Zc6 (WE.refl _) (Zc6 (WE.refl _) (Zc6 (WE.refl _) ZdF)))) Zc) Zb)

def ZcS (s : ByteArray) : Option (Int) :=
 ZbZ s >>= fun r18 =>
 if r18 = true then
 some 5
 else
 Zbs s >>= fun r20 =>
 if r20 = true then
 some 6
 else
 Zd4 s >>= fun r22 =>
 (if r22 = true then (btI s 0) >>= fun y23 =>
 ZdW ((y23.toNat : Nat) : Int) >>= fun r24 =>
 some r24 else some false) >>= fun c25 =>
 if c25 = true then
 some 2
 else
 Zd4 s >>= fun r28 =>
 if r28 = true then
 some 1
 else
 Zds s >>= fun r30 =>
 (if r30 = true then (btI s 0) >>= fun y31 =>
 some (((y31.toNat : Nat) : Int) == 58) else some false) >>= fun c32 =>
 if c32 = true then
 some 4
 else
 Zds s >>= fun r35 =>
 if r35 = true then
 some 3
 else
 Zeu s >>= fun r37 =>
 if r37.2.2 = true then
 some 7
 else
 some 0
def ZcS.M (s : ByteArray) (r : Int) : Prop :=
 Zk Tryz.prog 93 [.c none (.v (.string s))] [] (fun d b => d = .c none (.v (.int .i64 r)) ∧ b = [])
theorem ZgU (s : ByteArray) (r : Int) (hF : ZcS s = some r) : ZcS.M s r := by
 unfold ZcS at hF
 unfold ZcS.M
 refine en Tryz.func93 ?_
 refine AWP.seq ?_
 refine ns ?_
 refine AWP.seq ?_
 refine AWP.block ?_
 refine AWP.seq ?_
 obtain ⟨r18, ZH6, hF⟩ := bind_some hF
 refine ns ?_
 refine e3 ?_
 refine st ?_
 refine cm (Zk.weak (rn []) (Zhr s _ ZH6) rfl (WS.mk (tc Zc) Zb)) ?_
 refine st ?_
 refine nw ?_
 refine Zj hF (fun ZnB hF => ?_) (fun ZnB hF => ?_)
 ·refine AWP.seq ?_
  refine ns ?_
  obtain rfl := Zg hF
  refine ns ?_
  refine Exists.intro [] ?_
  refine st ?_
  exact wx (WS.mk (tc Zc) Zb)
 ·refine AWP.seq ?_
  obtain ⟨r20, ZHU, hF⟩ := bind_some hF
  refine ns ?_
  refine e3 ?_
  refine st ?_
  refine cm (Zk.weak (rn []) (ZeD s _ ZHU) rfl (WS.mk (tc Zc) Zb)) ?_
  refine st ?_
  refine nw ?_
  refine Zj hF (fun Zv3 hF => ?_) (fun Zv3 hF => ?_)
  ·refine AWP.seq ?_
   refine ns ?_
   obtain rfl := Zg hF
   refine ns ?_
   refine Exists.intro [] ?_
   refine st ?_
   exact wx (WS.mk (tc Zc) Zb)
  ·refine AWP.seq ?_
   obtain ⟨r22, ZDT, hF⟩ := bind_some hF
   obtain ⟨c25, Zi5, hF⟩ := bind_some hF
   refine AWP.cutN (fun T => ∃ r, WS r T ⟨[(0, .c none (.v (.string s))), (12, .c none (.v (.bool c25)))], []⟩) ?_ (fun T hw => ?_)
   ·refine ns ?_
    refine e3 ?_
    refine st ?_
    refine cm (Zk.weak (rn []) (ZhO s _ ZDT) rfl (WS.mk (tc Zc) Zb)) ?_
    refine st ?_
    refine Zl true (fun Zk3 => ?_) (fun Zk3 => ?_)
    ·have Zi5 := ift Zk3 Zi5
     obtain ⟨y23, hy230, ZG4, Zi5⟩ := ZcB Zi5
     obtain ⟨r24, ZDr, Zi5⟩ := bind_some Zi5
     (conv => whnf)
     refine sr ZG4 ?_
     refine st ?_
     refine e3 ?_
     refine st ?_
     refine cm (Zk.weak (rn []) (Zi2 ((y23.toNat : Nat) : Int) _ ZDr) rfl (WS.mk (tc Zc) Zb)) ?_
     refine st ?_
     obtain rfl := Zg Zi5
     refine st ?_
     exact wx (WS.mk (tc (Zd (Zs (web Zk3)) Zc)) Zb)
    ·have Zi5 := ife Zk3 Zi5
     (conv => whnf)
     obtain rfl := Zg Zi5
     refine st ?_
     exact wx (WS.mk (tc (Zd (Zs (web Zk3)) Zc)) Zb)
   obtain ⟨r0, hw⟩ := hw
   (conv => whnf)
   refine AWP.weak r0 hw ?_
   refine nw ?_
   refine Zj hF (fun Zta hF => ?_) (fun Zta hF => ?_)
   ·refine AWP.seq ?_
    refine ns ?_
    obtain rfl := Zg hF
    refine ns ?_
    refine Exists.intro [] ?_
    refine st ?_
    exact wx (WS.mk (tc Zc) Zb)
   ·refine AWP.seq ?_
    obtain ⟨r28, ZCG, hF⟩ := bind_some hF
    refine ns ?_
    refine e3 ?_
    refine st ?_
    refine cm (Zk.weak (rn []) (ZhO s _ ZCG) rfl (WS.mk (tc Zc) Zb)) ?_
    refine st ?_
    refine nw ?_
    refine Zj hF (fun ZnO hF => ?_) (fun ZnO hF => ?_)
    ·refine AWP.seq ?_
     refine ns ?_
     obtain rfl := Zg hF
     refine ns ?_
     refine Exists.intro [] ?_
     refine st ?_
     exact wx (WS.mk (tc Zc) Zb)
    ·refine AWP.seq ?_
     obtain ⟨r30, ZHZ, hF⟩ := bind_some hF
     obtain ⟨c32, ZmJ, hF⟩ := bind_some hF
     refine AWP.cutN (fun T => ∃ r, WS r T ⟨[(0, .c none (.v (.string s))), (23, .c none (.v (.bool c32)))], []⟩) ?_ (fun T hw => ?_)
     ·refine ns ?_
      refine e3 ?_
      refine st ?_
      refine cm (Zk.weak (rn []) (Zgm s _ ZHZ) rfl (WS.mk (tc Zc) Zb)) ?_
      refine st ?_
      refine Zl true (fun ZoT => ?_) (fun ZoT => ?_)
      ·have ZmJ := ift ZoT ZmJ
       obtain ⟨y31, hy310, ZIi, ZmJ⟩ := ZcB ZmJ
       (conv => whnf)
       refine sr ZIi ?_
       obtain rfl := Zg ZmJ
       refine st ?_
       exact wx (WS.mk (tc (Zd (Zs (web ZoT)) Zc)) Zb)
      ·have ZmJ := ife ZoT ZmJ
       (conv => whnf)
       obtain rfl := Zg ZmJ
       refine st ?_
       exact wx (WS.mk (tc (Zd (Zs (web ZoT)) Zc)) Zb)
     obtain ⟨r0, hw⟩ := hw
     (conv => whnf)
     refine AWP.weak r0 hw ?_
     refine nw ?_
     refine Zj hF (fun Zz0 hF => ?_) (fun Zz0 hF => ?_)
     ·refine AWP.seq ?_
      refine ns ?_
      obtain rfl := Zg hF
      refine ns ?_
      refine Exists.intro [] ?_
      refine st ?_
      exact wx (WS.mk (tc Zc) Zb)
     ·refine AWP.seq ?_
      obtain ⟨r35, ZDB, hF⟩ := bind_some hF
      refine ns ?_
      refine e3 ?_
      refine st ?_
      refine cm (Zk.weak (rn []) (Zgm s _ ZDB) rfl (WS.mk (tc Zc) Zb)) ?_
      refine st ?_
      refine nw ?_
      refine Zj hF (fun ZjL hF => ?_) (fun ZjL hF => ?_)
      ·refine AWP.seq ?_
       refine ns ?_
       obtain rfl := Zg hF
       refine ns ?_
       refine Exists.intro [] ?_
       refine st ?_
       exact wx (WS.mk (tc Zc) Zb)
      ·refine nw ?_
       refine AWP.seq ?_
       refine AWP.seq ?_
       obtain ⟨r37, ZIl, hF⟩ := bind_some hF
       refine ns ?_
       refine e3 ?_
       refine st ?_
       refine cm (Zk.weak (rn []) (ZjA s _ ZIl) rfl (WS.mk (tc Zc) Zb)) ?_
       refine st ?_
       refine AWP.seq ?_
       refine ns ?_
       refine nw ?_
       refine Zj hF (fun ZrP hF => ?_) (fun ZrP hF => ?_)
       ·refine AWP.seq ?_
        refine ns ?_
        obtain rfl := Zg hF
        refine ns ?_
        refine Exists.intro [] ?_
        refine st ?_
        exact wx (WS.mk (tc Zc) Zb)
       ·refine nw ?_
        refine AWP.seq ?_
        refine ns ?_
        obtain rfl := Zg hF
        refine ns ?_
        refine Exists.intro [] ?_
        refine st ?_
        exact wx (WS.mk (tc Zc) Zb)

def ZP (ZxC : Bool) : Option (Bool) :=
 if ZxC = true then
 some true
 else
 some false
def ZP.M (ZxC : Bool) (r : Bool) : Prop :=
 AWP Tryz.prog 28 (Code.sub (Zq Tryz.f87) [1, 0, 1, 0, 1, 1, 1]) (Code.cont Tryz.prog 28 (Zq Tryz.f87) [1, 0, 1, 0, 1, 1, 1] (ZbS tab Tryz.f87.results (ZbX (.c none (.v (.bool r))) []))) ⟨[(16, .c none (.v (.bool ZxC)))], []⟩
theorem Zaa (ZxC : Bool) (r : Bool) (hF : ZP ZxC = some r) : ZP.M ZxC r := by
 unfold ZP at hF
 unfold ZP.M
 refine nw ?_
 refine Zj hF (fun ZtF hF => ?_) (fun ZtF hF => ?_)
 ·refine AWP.seq ?_
  refine ns ?_
  obtain rfl := Zg hF
  refine ns ?_
  refine Exists.intro [] ?_
  refine st ?_
  exact wx (WS.mk (tc Zc) Zb)
 ·refine nw ?_
  refine AWP.seq ?_
  refine ns ?_
  obtain rfl := Zg hF
  refine ns ?_
  refine Exists.intro [] ?_
  refine st ?_
  exact wx (WS.mk (tc Zc) Zb)

def ZO (s : ByteArray) (x_4 : Bool) : Option (Bool) :=
 if x_4 = true then
 some true
 else
 if (s.toList == (ByteArray.mk #[105, 110, 102, 105, 120]).toList) = true then
 ZP (s.toList == (ByteArray.mk #[105, 110, 102, 105, 120]).toList)
 else
 if (s.toList == (ByteArray.mk #[105, 110, 102, 105, 120, 108]).toList) = true then
 ZP (s.toList == (ByteArray.mk #[105, 110, 102, 105, 120, 108]).toList)
 else
 if (s.toList == (ByteArray.mk #[105, 110, 102, 105, 120, 114]).toList) = true then
 ZP (s.toList == (ByteArray.mk #[105, 110, 102, 105, 120, 114]).toList)
 else
 if (s.toList == (ByteArray.mk #[105, 110, 115, 116, 97, 110, 99, 101]).toList) = true then
 ZP (s.toList == (ByteArray.mk #[105, 110, 115, 116, 97, 110, 99, 101]).toList)
 else
 if (s.toList == (ByteArray.mk #[108, 101, 116]).toList) = true then
 ZP (s.toList == (ByteArray.mk #[108, 101, 116]).toList)
 else
 if (s.toList == (ByteArray.mk #[109, 111, 100, 117, 108, 101]).toList) = true then
 ZP (s.toList == (ByteArray.mk #[109, 111, 100, 117, 108, 101]).toList)
 else
 if (s.toList == (ByteArray.mk #[111, 102]).toList) = true then
 ZP (s.toList == (ByteArray.mk #[111, 102]).toList)
 else
 if (s.toList == (ByteArray.mk #[113, 117, 97, 108, 105, 102, 105, 101, 100]).toList) = true then
 ZP (s.toList == (ByteArray.mk #[113, 117, 97, 108, 105, 102, 105, 101, 100]).toList)
 else
 if (s.toList == (ByteArray.mk #[116, 104, 101, 110]).toList) = true then
 ZP (s.toList == (ByteArray.mk #[116, 104, 101, 110]).toList)
 else
 if (s.toList == (ByteArray.mk #[119, 104, 101, 114, 101]).toList) = true then
 ZP (s.toList == (ByteArray.mk #[119, 104, 101, 114, 101]).toList)
 else
 ZP (s.toList == (ByteArray.mk #[95]).toList)
def ZO.M (s : ByteArray) (x_4 : Bool) (r : Bool) : Prop :=
 AWP Tryz.prog 28 (Code.sub (Zq Tryz.f87) [1, 0, 1, 0, 1]) (Code.cont Tryz.prog 28 (Zq Tryz.f87) [1, 0, 1, 0, 1] (ZbS tab Tryz.f87.results (ZbX (.c none (.v (.bool r))) []))) ⟨[(3, .c none (.v (.string s))), (4, .c none (.v (.bool x_4)))], []⟩
theorem Z9 (s : ByteArray) (x_4 : Bool) (r : Bool) (hF : ZO s x_4 = some r) : ZO.M s x_4 r := by
 unfold ZO at hF
 unfold ZO.M
 refine nw ?_
 refine Zj hF (fun Zct hF => ?_) (fun Zct hF => ?_)
 ·refine AWP.seq ?_
  refine ns ?_
  obtain rfl := Zg hF
  refine ns ?_
  refine Exists.intro [] ?_
  refine st ?_
  exact wx (WS.mk (tc Zc) Zb)
 ·refine AWP.seq ?_
  refine AWP.seq ?_
  refine ns ?_
  refine nw ?_
  refine Zj hF (fun ZDQ hF => ?_) (fun ZDQ hF => ?_)
  ·refine nw ?_
   refine AWP.weak (rn []) ?_ (Zaa (s.toList == (ByteArray.mk #[105, 110, 102, 105, 120]).toList) _ hF)
   exact (WS.mk (tc Zc) Zb)
  ·refine AWP.seq ?_
   refine ns ?_
   refine nw ?_
   refine Zj hF (fun ZAv hF => ?_) (fun ZAv hF => ?_)
   ·refine nw ?_
    refine AWP.weak (rn []) ?_ (Zaa (s.toList == (ByteArray.mk #[105, 110, 102, 105, 120, 108]).toList) _ hF)
    exact (WS.mk (tc Zc) Zb)
   ·refine AWP.seq ?_
    refine ns ?_
    refine nw ?_
    refine Zj hF (fun Zi5 hF => ?_) (fun Zi5 hF => ?_)
    ·refine nw ?_
     refine AWP.weak (rn []) ?_ (Zaa (s.toList == (ByteArray.mk #[105, 110, 102, 105, 120, 114]).toList) _ hF)
     exact (WS.mk (tc Zc) Zb)
    ·refine AWP.seq ?_
     refine ns ?_
     refine nw ?_
     refine Zj hF (fun Zk3 hF => ?_) (fun Zk3 hF => ?_)
     ·refine nw ?_
      refine AWP.weak (rn []) ?_ (Zaa (s.toList == (ByteArray.mk #[105, 110, 115, 116, 97, 110, 99, 101]).toList) _ hF)
      exact (WS.mk (tc Zc) Zb)
     ·refine AWP.seq ?_
      refine ns ?_
      refine nw ?_
      refine Zj hF (fun Zta hF => ?_) (fun Zta hF => ?_)
      ·refine nw ?_
       refine AWP.weak (rn []) ?_ (Zaa (s.toList == (ByteArray.mk #[108, 101, 116]).toList) _ hF)
       exact (WS.mk (tc Zc) Zb)
      ·refine AWP.seq ?_
       refine ns ?_
       refine nw ?_
       refine Zj hF (fun ZzH hF => ?_) (fun ZzH hF => ?_)
       ·refine nw ?_
        refine AWP.weak (rn []) ?_ (Zaa (s.toList == (ByteArray.mk #[109, 111, 100, 117, 108, 101]).toList) _ hF)
        exact (WS.mk (tc Zc) Zb)
       ·refine AWP.seq ?_
        refine ns ?_
        refine nw ?_
        refine Zj hF (fun ZnO hF => ?_) (fun ZnO hF => ?_)
        ·refine nw ?_
         refine AWP.weak (rn []) ?_ (Zaa (s.toList == (ByteArray.mk #[111, 102]).toList) _ hF)
         exact (WS.mk (tc Zc) Zb)
        ·refine AWP.seq ?_
         refine ns ?_
         refine nw ?_
         refine Zj hF (fun Zpg hF => ?_) (fun Zpg hF => ?_)
         ·refine nw ?_
          refine AWP.weak (rn []) ?_ (Zaa (s.toList == (ByteArray.mk #[113, 117, 97, 108, 105, 102, 105, 101, 100]).toList) _ hF)
          exact (WS.mk (tc Zc) Zb)
         ·refine AWP.seq ?_
          refine ns ?_
          refine nw ?_
          refine Zj hF (fun Zzx hF => ?_) (fun Zzx hF => ?_)
          ·refine nw ?_
           refine AWP.weak (rn []) ?_ (Zaa (s.toList == (ByteArray.mk #[116, 104, 101, 110]).toList) _ hF)
           exact (WS.mk (tc Zc) Zb)
          ·refine AWP.seq ?_
           refine ns ?_
           refine nw ?_
           refine Zj hF (fun ZmJ hF => ?_) (fun ZmJ hF => ?_)
           ·refine nw ?_
            refine AWP.weak (rn []) ?_ (Zaa (s.toList == (ByteArray.mk #[119, 104, 101, 114, 101]).toList) _ hF)
            exact (WS.mk (tc Zc) Zb)
           ·refine ns ?_
            refine AWP.weak (rn []) ?_ (Zaa (s.toList == (ByteArray.mk #[95]).toList) _ hF)
            exact (WS.mk (tc Zc) Zb)

def Zca (s : ByteArray) : Option (Bool) :=
 if (s.toList == (ByteArray.mk #[97, 115]).toList) = true then
 ZO s (s.toList == (ByteArray.mk #[97, 115]).toList)
 else
 if (s.toList == (ByteArray.mk #[99, 97, 115, 101]).toList) = true then
 ZO s (s.toList == (ByteArray.mk #[99, 97, 115, 101]).toList)
 else
 if (s.toList == (ByteArray.mk #[99, 108, 97, 115, 115]).toList) = true then
 ZO s (s.toList == (ByteArray.mk #[99, 108, 97, 115, 115]).toList)
 else
 if (s.toList == (ByteArray.mk #[100, 97, 116, 97]).toList) = true then
 ZO s (s.toList == (ByteArray.mk #[100, 97, 116, 97]).toList)
 else
 if (s.toList == (ByteArray.mk #[100, 101, 114, 105, 118, 105, 110, 103]).toList) = true then
 ZO s (s.toList == (ByteArray.mk #[100, 101, 114, 105, 118, 105, 110, 103]).toList)
 else
 if (s.toList == (ByteArray.mk #[100, 111]).toList) = true then
 ZO s (s.toList == (ByteArray.mk #[100, 111]).toList)
 else
 if (s.toList == (ByteArray.mk #[101, 108, 115, 101]).toList) = true then
 ZO s (s.toList == (ByteArray.mk #[101, 108, 115, 101]).toList)
 else
 if (s.toList == (ByteArray.mk #[104, 105, 100, 105, 110, 103]).toList) = true then
 ZO s (s.toList == (ByteArray.mk #[104, 105, 100, 105, 110, 103]).toList)
 else
 if (s.toList == (ByteArray.mk #[105, 102]).toList) = true then
 ZO s (s.toList == (ByteArray.mk #[105, 102]).toList)
 else
 if (s.toList == (ByteArray.mk #[105, 109, 112, 111, 114, 116]).toList) = true then
 ZO s (s.toList == (ByteArray.mk #[105, 109, 112, 111, 114, 116]).toList)
 else
 ZO s (s.toList == (ByteArray.mk #[105, 110]).toList)
def Zca.M (s : ByteArray) (r : Bool) : Prop :=
 Zk Tryz.prog 87 [.c none (.v (.string s))] [] (fun d b => d = .c none (.v (.bool r)) ∧ b = [])
theorem Zks (s : ByteArray) (r : Bool) (hF : Zca s = some r) : Zca.M s r := by
 unfold Zca at hF
 unfold Zca.M
 refine en Tryz.func87 ?_
 refine AWP.seq ?_
 refine ns ?_
 refine AWP.seq ?_
 refine AWP.seq ?_
 refine ns ?_
 refine AWP.block ?_
 refine AWP.seq ?_
 refine AWP.seq ?_
 refine ns ?_
 refine nw ?_
 refine Zj hF (fun ZoT hF => ?_) (fun ZoT hF => ?_)
 ·refine nw ?_
  refine AWP.weak (rn []) ?_ (Z9 s (s.toList == (ByteArray.mk #[97, 115]).toList) _ hF)
  exact (WS.mk (tc (tc Zc)) Zb)
 ·refine AWP.seq ?_
  refine ns ?_
  refine nw ?_
  refine Zj hF (fun Zz0 hF => ?_) (fun Zz0 hF => ?_)
  ·refine nw ?_
   refine AWP.weak (rn []) ?_ (Z9 s (s.toList == (ByteArray.mk #[99, 97, 115, 101]).toList) _ hF)
   exact (WS.mk (tc (tc Zc)) Zb)
  ·refine AWP.seq ?_
   refine ns ?_
   refine nw ?_
   refine Zj hF (fun ZmF hF => ?_) (fun ZmF hF => ?_)
   ·refine nw ?_
    refine AWP.weak (rn []) ?_ (Z9 s (s.toList == (ByteArray.mk #[99, 108, 97, 115, 115]).toList) _ hF)
    exact (WS.mk (tc (tc Zc)) Zb)
   ·refine AWP.seq ?_
    refine ns ?_
    refine nw ?_
    refine Zj hF (fun ZjL hF => ?_) (fun ZjL hF => ?_)
    ·refine nw ?_
     refine AWP.weak (rn []) ?_ (Z9 s (s.toList == (ByteArray.mk #[100, 97, 116, 97]).toList) _ hF)
     exact (WS.mk (tc (tc Zc)) Zb)
    ·refine AWP.seq ?_
     refine ns ?_
     refine nw ?_
     refine Zj hF (fun Zpe hF => ?_) (fun Zpe hF => ?_)
     ·refine nw ?_
      refine AWP.weak (rn []) ?_ (Z9 s (s.toList == (ByteArray.mk #[100, 101, 114, 105, 118, 105, 110, 103]).toList) _ hF)
      exact (WS.mk (tc (tc Zc)) Zb)
     ·refine AWP.seq ?_
      refine ns ?_
      refine nw ?_
      refine Zj hF (fun ZrP hF => ?_) (fun ZrP hF => ?_)
      ·refine nw ?_
       refine AWP.weak (rn []) ?_ (Z9 s (s.toList == (ByteArray.mk #[100, 111]).toList) _ hF)
       exact (WS.mk (tc (tc Zc)) Zb)
      ·refine AWP.seq ?_
       refine ns ?_
       refine nw ?_
       refine Zj hF (fun Zje hF => ?_) (fun Zje hF => ?_)
       ·refine nw ?_
        refine AWP.weak (rn []) ?_ (Z9 s (s.toList == (ByteArray.mk #[101, 108, 115, 101]).toList) _ hF)
        exact (WS.mk (tc (tc Zc)) Zb)
       ·refine AWP.seq ?_
        refine ns ?_
        refine nw ?_
        refine Zj hF (fun ZqL hF => ?_) (fun ZqL hF => ?_)
        ·refine nw ?_
         refine AWP.weak (rn []) ?_ (Z9 s (s.toList == (ByteArray.mk #[104, 105, 100, 105, 110, 103]).toList) _ hF)
         exact (WS.mk (tc (tc Zc)) Zb)
        ·refine AWP.seq ?_
         refine ns ?_
         refine nw ?_
         refine Zj hF (fun ZvZ hF => ?_) (fun ZvZ hF => ?_)
         ·refine nw ?_
          refine AWP.weak (rn []) ?_ (Z9 s (s.toList == (ByteArray.mk #[105, 102]).toList) _ hF)
          exact (WS.mk (tc (tc Zc)) Zb)
         ·refine AWP.seq ?_
          refine ns ?_
          refine nw ?_
          refine Zj hF (fun Zv5 hF => ?_) (fun Zv5 hF => ?_)
          ·refine nw ?_
           refine AWP.weak (rn []) ?_ (Z9 s (s.toList == (ByteArray.mk #[105, 109, 112, 111, 114, 116]).toList) _ hF)
           exact (WS.mk (tc (tc Zc)) Zb)
          ·refine ns ?_
           refine AWP.weak (rn []) ?_ (Z9 s (s.toList == (ByteArray.mk #[105, 110]).toList) _ hF)
           exact (WS.mk (tc (tc Zc)) Zb)

def ZC (x_4 : Bool) : Option (Bool) :=
 if x_4 = true then
 some true
 else
 some false
def ZC.M (x_4 : Bool) (r : Bool) : Prop :=
 AWP Tryz.prog 15 (Code.sub (Zq Tryz.f90) [1, 0, 1, 0, 1]) (Code.cont Tryz.prog 15 (Zq Tryz.f90) [1, 0, 1, 0, 1] (ZbS tab Tryz.f90.results (ZbX (.c none (.v (.bool r))) []))) ⟨[(4, .c none (.v (.bool x_4)))], []⟩
theorem ZX (x_4 : Bool) (r : Bool) (hF : ZC x_4 = some r) : ZC.M x_4 r := by
 unfold ZC at hF
 unfold ZC.M
 refine nw ?_
 refine Zj hF (fun ZeC hF => ?_) (fun ZeC hF => ?_)
 ·refine AWP.seq ?_
  refine ns ?_
  obtain rfl := Zg hF
  refine ns ?_
  refine Exists.intro [] ?_
  refine st ?_
  exact wx (WS.mk (tc Zc) Zb)
 ·refine nw ?_
  refine AWP.seq ?_
  refine ns ?_
  obtain rfl := Zg hF
  refine ns ?_
  refine Exists.intro [] ?_
  refine st ?_
  exact wx (WS.mk (tc Zc) Zb)

def ZaX (s : ByteArray) : Option (Bool) :=
 if (s.toList == (ByteArray.mk #[46, 46]).toList) = true then
 ZC (s.toList == (ByteArray.mk #[46, 46]).toList)
 else
 if (s.toList == (ByteArray.mk #[58, 58]).toList) = true then
 ZC (s.toList == (ByteArray.mk #[58, 58]).toList)
 else
 if (s.toList == (ByteArray.mk #[61]).toList) = true then
 ZC (s.toList == (ByteArray.mk #[61]).toList)
 else
 if (s.toList == (ByteArray.mk #[92]).toList) = true then
 ZC (s.toList == (ByteArray.mk #[92]).toList)
 else
 if (s.toList == (ByteArray.mk #[124]).toList) = true then
 ZC (s.toList == (ByteArray.mk #[124]).toList)
 else
 if (s.toList == (ByteArray.mk #[60, 45]).toList) = true then
 ZC (s.toList == (ByteArray.mk #[60, 45]).toList)
 else
 if (s.toList == (ByteArray.mk #[45, 62]).toList) = true then
 ZC (s.toList == (ByteArray.mk #[45, 62]).toList)
 else
 if (s.toList == (ByteArray.mk #[64]).toList) = true then
 ZC (s.toList == (ByteArray.mk #[64]).toList)
 else
 if (s.toList == (ByteArray.mk #[126]).toList) = true then
 ZC (s.toList == (ByteArray.mk #[126]).toList)
 else
 ZC (s.toList == (ByteArray.mk #[61, 62]).toList)
def ZaX.M (s : ByteArray) (r : Bool) : Prop :=
 Zk Tryz.prog 90 [.c none (.v (.string s))] [] (fun d b => d = .c none (.v (.bool r)) ∧ b = [])
theorem Zh9 (s : ByteArray) (r : Bool) (hF : ZaX s = some r) : ZaX.M s r := by
 unfold ZaX at hF
 unfold ZaX.M
 refine en Tryz.func90 ?_
 refine AWP.seq ?_
 refine ns ?_
 refine AWP.seq ?_
 refine AWP.seq ?_
 refine ns ?_
 refine AWP.block ?_
 refine AWP.seq ?_
 refine AWP.seq ?_
 refine ns ?_
 refine nw ?_
 refine Zj hF (fun Zct hF => ?_) (fun Zct hF => ?_)
 ·refine nw ?_
  refine AWP.weak (rn []) ?_ (ZX (s.toList == (ByteArray.mk #[46, 46]).toList) _ hF)
  exact (WS.mk (tc Zc) Zb)
 ·refine AWP.seq ?_
  refine ns ?_
  refine nw ?_
  refine Zj hF (fun Zd9 hF => ?_) (fun Zd9 hF => ?_)
  ·refine nw ?_
   refine AWP.weak (rn []) ?_ (ZX (s.toList == (ByteArray.mk #[58, 58]).toList) _ hF)
   exact (WS.mk (tc Zc) Zb)
  ·refine AWP.seq ?_
   refine ns ?_
   refine nw ?_
   refine Zj hF (fun Zcx hF => ?_) (fun Zcx hF => ?_)
   ·refine nw ?_
    refine AWP.weak (rn []) ?_ (ZX (s.toList == (ByteArray.mk #[61]).toList) _ hF)
    exact (WS.mk (tc Zc) Zb)
   ·refine AWP.seq ?_
    refine ns ?_
    refine nw ?_
    refine Zj hF (fun Zc5 hF => ?_) (fun Zc5 hF => ?_)
    ·refine nw ?_
     refine AWP.weak (rn []) ?_ (ZX (s.toList == (ByteArray.mk #[92]).toList) _ hF)
     exact (WS.mk (tc Zc) Zb)
    ·refine AWP.seq ?_
     refine ns ?_
     refine nw ?_
     refine Zj hF (fun Zf2 hF => ?_) (fun Zf2 hF => ?_)
     ·refine nw ?_
      refine AWP.weak (rn []) ?_ (ZX (s.toList == (ByteArray.mk #[124]).toList) _ hF)
      exact (WS.mk (tc Zc) Zb)
     ·refine AWP.seq ?_
      refine ns ?_
      refine nw ?_
      refine Zj hF (fun ZeI hF => ?_) (fun ZeI hF => ?_)
      ·refine nw ?_
       refine AWP.weak (rn []) ?_ (ZX (s.toList == (ByteArray.mk #[60, 45]).toList) _ hF)
       exact (WS.mk (tc Zc) Zb)
      ·refine AWP.seq ?_
       refine ns ?_
       refine nw ?_
       refine Zj hF (fun Zfl hF => ?_) (fun Zfl hF => ?_)
       ·refine nw ?_
        refine AWP.weak (rn []) ?_ (ZX (s.toList == (ByteArray.mk #[45, 62]).toList) _ hF)
        exact (WS.mk (tc Zc) Zb)
       ·refine AWP.seq ?_
        refine ns ?_
        refine nw ?_
        refine Zj hF (fun ZjH hF => ?_) (fun ZjH hF => ?_)
        ·refine nw ?_
         refine AWP.weak (rn []) ?_ (ZX (s.toList == (ByteArray.mk #[64]).toList) _ hF)
         exact (WS.mk (tc Zc) Zb)
        ·refine AWP.seq ?_
         refine ns ?_
         refine nw ?_
         refine Zj hF (fun ZnB hF => ?_) (fun ZnB hF => ?_)
         ·refine nw ?_
          refine AWP.weak (rn []) ?_ (ZX (s.toList == (ByteArray.mk #[126]).toList) _ hF)
          exact (WS.mk (tc Zc) Zb)
         ·refine ns ?_
          refine AWP.weak (rn []) ?_ (ZX (s.toList == (ByteArray.mk #[61, 62]).toList) _ hF)
          exact (WS.mk (tc Zc) Zb)

def Z0 (c : Int) (i_4 : Nat) : Option (Bool) :=
 if (decide (((i_4 : Nat) : Int) < (((ByteArray.mk #[33, 35, 36, 37, 38, 42, 43, 46, 47, 60, 61, 62, 63, 64, 92, 94, 124, 45, 126, 58]).size : Nat) : Int))) = true then
 (btI (ByteArray.mk #[33, 35, 36, 37, 38, 42, 43, 46, 47, 60, 61, 62, 63, 64, 92, 94, 124, 45, 126, 58]) ((i_4 : Nat) : Int)) >>= fun y12 =>
 if (((y12.toNat : Nat) : Int) == c) = true then
 some true
 else
 ZK (i_4 + 1 ≤ 9223372036854775807) >>= fun _ =>
 Z0 c (i_4 + 1)
 else
 some false
 partial_fixpoint
def Z0.M (c : Int) (i_4 : Nat) (r : Bool) : Prop :=
 AWL Tryz.prog 16 (Code.sub (Zq Tryz.f112) [1, 1, 0, 1, 0, 0]) (Code.cont Tryz.prog 16 (Zq Tryz.f112) [1, 1, 0, 1, 0] (ZbS tab Tryz.f112.results (ZbX (.c none (.v (.bool r))) []))) ⟨[(0, .c none (.v (.int .u8 c))), (3, .c none (.v (.string (ByteArray.mk #[33, 35, 36, 37, 38, 42, 43, 46, 47, 60, 61, 62, 63, 64, 92, 94, 124, 45, 126, 58])))), (4, .c none (.v (.int .i64 ((i_4 : Nat) : Int))))], []⟩
theorem Zi8 (c : Int) (i_4 : Nat) : ∀ r, Z0 c i_4 = some r → Z0.M c i_4 r := by
 refine Z0.partial_correctness c (fun i_4 r => Z0.M c i_4 r) ?_ i_4
 intro lazycref01_Symbolic_l1' Zfy i_4 r hF
 have Zjb := fun (_c : Int) (i_4 : Nat) => Zfy i_4
 clear Zfy
 unfold Z0.M
 refine AWL.step ?_
 refine AWP.seq ?_
 refine AWP.seq ?_
 refine ns ?_
 refine nw ?_
 refine Zj hF (fun Zct hF => ?_) (fun Zct hF => ?_)
 ·refine nw ?_
  refine AWP.seq ?_
  refine AWP.block ?_
  refine AWP.seq ?_
  obtain ⟨y12, ZEt, ZB3, hF⟩ := ZcB hF
  refine nn ?_
  refine sr ZB3 ?_
  refine st ?_
  refine nw ?_
  refine Zj hF (fun Zcx hF => ?_) (fun Zcx hF => ?_)
  ·refine AWP.seq ?_
   refine ns ?_
   obtain rfl := Zg hF
   refine ns ?_
   refine Exists.intro [] ?_
   refine st ?_
   exact wx (WS.mk (tc Zc) Zb)
  ·refine nw ?_
   obtain ⟨ZHf, hF⟩ := Zy hF
   refine ns ?_
   refine AWL.weak (rn []) ?_ (Zjb c (i_4 + 1) _ hF)
   exact (WS.mk (tc (tc (Zd (Zs (Zdd (Zc8 ZHf))) Zc))) Zb)
 ·refine nw ?_
  refine AWP.seq ?_
  refine ns ?_
  obtain rfl := Zg hF
  refine ns ?_
  refine Exists.intro [] ?_
  refine st ?_
  exact wx (WS.mk (tc Zc) Zb)

def Zcb (c : Int) : Option (Bool) :=
 Z0 c 0
def Zcb.M (c : Int) (r : Bool) : Prop :=
 Zk Tryz.prog 112 [.c none (.v (.int .u8 c))] [] (fun d b => d = .c none (.v (.bool r)) ∧ b = [])
theorem Zkz (c : Int) (r : Bool) (hF : Zcb c = some r) : Zcb.M c r := by
 unfold Zcb at hF
 unfold Zcb.M
 refine en Tryz.func112 ?_
 refine AWP.seq ?_
 refine ns ?_
 refine AWP.seq ?_
 refine ns ?_
 refine AWP.seq ?_
 refine AWP.seq ?_
 refine ns ?_
 refine AWP.block ?_
 refine AWP.loop ?_
 refine AWL.weak (rn []) ?_ (Zi8 c 0 _ hF)
 exact (WS.mk (tc (tc (tc Zc))) Zb)

def Zax (s : ByteArray) (Zbl : Nat) (i_4 : Nat) : Option (Bool) :=
 if (decide (((i_4 : Nat) : Int) < ((s.size : Nat) : Int))) = true then
 (btI s ((i_4 : Nat) : Int)) >>= fun y68 =>
 Zcb ((y68.toNat : Nat) : Int) >>= fun r69 =>
 if (!r69) = true then
 some false
 else
 (btI s ((i_4 : Nat) : Int)) >>= fun y71 =>
 if (((y71.toNat : Nat) : Int) == 45) = true then
 ZK (Zbl + 1 ≤ 9223372036854775807) >>= fun _ =>
 ZK (i_4 + 1 ≤ 9223372036854775807) >>= fun _ =>
 Zax s (Zbl + 1) (i_4 + 1)
 else
 ZK (i_4 + 1 ≤ 9223372036854775807) >>= fun _ =>
 Zax s Zbl (i_4 + 1)
 else
 some ((decide (((Zbl : Nat) : Int) < ((s.size : Nat) : Int))) || (((s.size : Nat) : Int) == 1))
 partial_fixpoint
def Zax.M (s : ByteArray) (Zbl : Nat) (i_4 : Nat) (r : Bool) : Prop :=
 AWL Tryz.prog 39 (Code.sub (Zq Tryz.f89) [1, 1, 1, 0, 1, 0, 0]) (Code.cont Tryz.prog 39 (Zq Tryz.f89) [1, 1, 1, 0, 1, 0] (ZbS tab Tryz.f89.results (ZbX (.c none (.v (.bool r))) []))) ⟨[(0, .c none (.v (.string s))), (3, .c none (.v (.int .i64 ((Zbl : Nat) : Int)))), (4, .c none (.v (.int .i64 ((i_4 : Nat) : Int))))], []⟩
theorem Zj9 (s : ByteArray) (Zbl : Nat) (i_4 : Nat) : ∀ r, Zax s Zbl i_4 = some r → Zax.M s Zbl i_4 r := by
 refine Zax.partial_correctness s (fun Zbl i_4 r => Zax.M s Zbl i_4 r) ?_ Zbl i_4
 intro lazycref01_symbol_l1' Zf5 Zbl i_4 r hF
 have ZgD := fun (_s : ByteArray) (Zbl : Nat) (i_4 : Nat) => Zf5 Zbl i_4
 clear Zf5
 unfold Zax.M
 refine AWL.step ?_
 refine AWP.seq ?_
 refine AWP.seq ?_
 refine ns ?_
 refine nw ?_
 refine Zj hF (fun Zqp hF => ?_) (fun Zqp hF => ?_)
 ·refine nw ?_
  refine AWP.seq ?_
  refine AWP.block ?_
  refine AWP.seq ?_
  refine AWP.seq ?_
  obtain ⟨y68, hy680, ZG8, hF⟩ := ZcB hF
  obtain ⟨r69, ZDa, hF⟩ := bind_some hF
  refine nn ?_
  refine sr ZG8 ?_
  refine st ?_
  refine e3 ?_
  refine st ?_
  refine cm (Zk.weak (rn []) (Zkz ((y68.toNat : Nat) : Int) _ ZDa) rfl (WS.mk (tc Zc) Zb)) ?_
  refine st ?_
  refine nw ?_
  refine Zj hF (fun ZIa hF => ?_) (fun ZIa hF => ?_)
  ·refine AWP.seq ?_
   refine ns ?_
   obtain rfl := Zg hF
   refine ns ?_
   refine Exists.intro [] ?_
   refine st ?_
   exact wx (WS.mk (tc Zc) Zb)
  ·refine nw ?_
   refine AWP.seq ?_
   obtain ⟨y71, hy710, ZHC, hF⟩ := ZcB hF
   refine nn ?_
   refine sr ZHC ?_
   refine st ?_
   refine nw ?_
   refine Zj hF (fun ZHh hF => ?_) (fun ZHh hF => ?_)
   ·obtain ⟨ZHX, hF⟩ := Zy hF
    refine ns ?_
    obtain ⟨ZDs, hF⟩ := Zy hF
    refine ns ?_
    refine AWL.weak (rn []) ?_ (ZgD s (Zbl + 1) (i_4 + 1) _ hF)
    exact (WS.mk (tc (Zd (Zs (Zdd (Zc8 ZHX))) (Zd (Zs (Zdd (Zc8 ZDs))) Zc))) Zb)
   ·refine nw ?_
    obtain ⟨ZDk, hF⟩ := Zy hF
    refine ns ?_
    refine AWL.weak (rn []) ?_ (ZgD s Zbl (i_4 + 1) _ hF)
    exact (WS.mk (tc (tc (Zd (Zs (Zdd (Zc8 ZDk))) Zc))) Zb)
 ·refine nw ?_
  refine AWP.seq ?_
  refine AWP.cutN (fun T => ∃ r, WS r T ⟨[(2, .c none (.v (.bool ((decide (((Zbl : Nat) : Int) < ((s.size : Nat) : Int))) || (((s.size : Nat) : Int) == 1)))))], []⟩) ?_ (fun T hw => ?_)
  ·refine ns ?_
   refine Zl false (fun ZEe => ?_) (fun ZEe => ?_)
   ·(conv => whnf)
    refine st ?_
    exact wx (WS.mk (Zd (Zs (web ZEe)) Zc) Zb)
   ·(conv => whnf)
    refine st ?_
    exact wx (WS.mk (Zd (Zs (web ZEe)) Zc) Zb)
  obtain ⟨r0, hw⟩ := hw
  (conv => whnf)
  refine AWP.weak r0 hw ?_
  obtain rfl := Zg hF
  refine ns ?_
  refine Exists.intro [] ?_
  refine st ?_
  exact wx (WS.mk (tc Zc) Zb)

def ZcM (s : ByteArray) : Option (Bool) :=
 if ((decide (((s.size : Nat) : Int) < 1)) || (decide (((s.size : Nat) : Int) > 64))) = true then
 some false
 else
 Zax s 0 0
def ZcM.M (s : ByteArray) (r : Bool) : Prop :=
 Zk Tryz.prog 89 [.c none (.v (.string s))] [] (fun d b => d = .c none (.v (.bool r)) ∧ b = [])
theorem Zlu (s : ByteArray) (r : Bool) (hF : ZcM s = some r) : ZcM.M s r := by
 unfold ZcM at hF
 unfold ZcM.M
 refine en Tryz.func89 ?_
 refine AWP.seq ?_
 refine ns ?_
 refine AWP.seq ?_
 refine AWP.seq ?_
 refine AWP.cutN (fun T => ∃ r, WS r T ⟨[(0, .c none (.v (.string s))), (12, .c none (.v (.bool ((decide (((s.size : Nat) : Int) < 1)) || (decide (((s.size : Nat) : Int) > 64))))))], []⟩) ?_ (fun T hw => ?_)
 ·refine ns ?_
  refine Zl false (fun hc2 => ?_) (fun hc2 => ?_)
  ·(conv => whnf)
   refine st ?_
   exact wx (WS.mk (tc (Zd (Zs (web hc2)) Zc)) Zb)
  ·(conv => whnf)
   refine st ?_
   exact wx (WS.mk (tc (Zd (Zs (web hc2)) Zc)) Zb)
 obtain ⟨r0, hw⟩ := hw
 (conv => whnf)
 refine AWP.weak r0 hw ?_
 refine nw ?_
 refine Zj hF (fun hc3 hF => ?_) (fun hc3 hF => ?_)
 ·refine AWP.seq ?_
  refine ns ?_
  obtain rfl := Zg hF
  refine ns ?_
  refine Exists.intro [] ?_
  refine st ?_
  exact wx (WS.mk (tc Zc) Zb)
 ·refine nw ?_
  refine AWP.seq ?_
  refine ns ?_
  refine AWP.seq ?_
  refine AWP.seq ?_
  refine ns ?_
  refine AWP.block ?_
  refine AWP.loop ?_
  refine AWL.weak (rn []) ?_ (Zj9 s 0 0 _ hF)
  exact (WS.mk (tc (tc (tc Zc))) Zb)

def Zb7 (c : Int) : Option (Bool) :=
 some ((decide (c ≥ 65)) && (decide (c ≤ 90)))
def Zb7.M (c : Int) (r : Bool) : Prop :=
 Zk Tryz.prog 88 [.c none (.v (.int .u8 c))] [] (fun d b => d = .c none (.v (.bool r)) ∧ b = [])
theorem ZfZ (c : Int) (r : Bool) (hF : Zb7 c = some r) : Zb7.M c r := by
 unfold Zb7 at hF
 unfold Zb7.M
 refine en Tryz.func88 ?_
 refine AWP.seq ?_
 refine ns ?_
 refine AWP.seq ?_
 refine AWP.cutN (fun T => ∃ r, WS r T ⟨[(2, .c none (.v (.bool ((decide (c ≥ 65)) && (decide (c ≤ 90))))))], []⟩) ?_ (fun T hw => ?_)
 ·refine ns ?_
  refine Zl true (fun hc1 => ?_) (fun hc1 => ?_)
  ·(conv => whnf)
   refine st ?_
   exact wx (WS.mk (Zd (Zs (web hc1)) Zc) Zb)
  ·(conv => whnf)
   refine st ?_
   exact wx (WS.mk (Zd (Zs (web hc1)) Zc) Zb)
 obtain ⟨r0, hw⟩ := hw
 (conv => whnf)
 refine AWP.weak r0 hw ?_
 obtain rfl := Zg hF
 refine ns ?_
 refine Exists.intro [] ?_
 refine st ?_
 exact wx (WS.mk (tc Zc) Zb)

def ZcG (c : Int) : Option (Bool) :=
 some (((decide (c ≥ 97)) && (decide (c ≤ 122))) || (c == 95))
def ZcG.M (c : Int) (r : Bool) : Prop :=
 Zk Tryz.prog 111 [.c none (.v (.int .u8 c))] [] (fun d b => d = .c none (.v (.bool r)) ∧ b = [])
theorem Zik (c : Int) (r : Bool) (hF : ZcG c = some r) : ZcG.M c r := by
 unfold ZcG at hF
 unfold ZcG.M
 refine en Tryz.func111 ?_
 refine AWP.seq ?_
 refine ns ?_
 refine AWP.seq ?_
 refine AWP.cutN (fun T => ∃ r, WS r T ⟨[(2, .c none (.v (.bool (((decide (c ≥ 97)) && (decide (c ≤ 122))) || (c == 95)))))], []⟩) ?_ (fun T hw => ?_)
 ·refine ns ?_
  refine Zl true (fun hc1 => ?_) (fun hc1 => ?_)
  ·(conv => whnf)
   refine st ?_
   refine Zl false (fun hc2 => ?_) (fun hc2 => ?_)
   ·(conv => whnf)
    refine st ?_
    exact wx (WS.mk (Zd (Zs (web (And.intro hc1 hc2))) Zc) Zb)
   ·(conv => whnf)
    refine st ?_
    exact wx (WS.mk (Zd (Zs (web (And.intro hc1 hc2))) Zc) Zb)
  ·(conv => whnf)
   refine st ?_
   exact wx (WS.mk (Zd (Zs (web hc1)) Zc) Zb)
 obtain ⟨r0, hw⟩ := hw
 (conv => whnf)
 refine AWP.weak r0 hw ?_
 obtain rfl := Zg hF
 refine ns ?_
 refine Exists.intro [] ?_
 refine st ?_
 exact wx (WS.mk (tc Zc) Zb)

def ZcA (c : Int) : Option (Bool) :=
 some ((decide (c ≥ 48)) && (decide (c ≤ 57)))
def ZcA.M (c : Int) (r : Bool) : Prop :=
 Zk Tryz.prog 110 [.c none (.v (.int .u8 c))] [] (fun d b => d = .c none (.v (.bool r)) ∧ b = [])
theorem Zid (c : Int) (r : Bool) (hF : ZcA c = some r) : ZcA.M c r := by
 unfold ZcA at hF
 unfold ZcA.M
 refine en Tryz.func110 ?_
 refine AWP.seq ?_
 refine ns ?_
 refine AWP.seq ?_
 refine AWP.cutN (fun T => ∃ r, WS r T ⟨[(2, .c none (.v (.bool ((decide (c ≥ 48)) && (decide (c ≤ 57))))))], []⟩) ?_ (fun T hw => ?_)
 ·refine ns ?_
  refine Zl true (fun hc1 => ?_) (fun hc1 => ?_)
  ·(conv => whnf)
   refine st ?_
   exact wx (WS.mk (Zd (Zs (web hc1)) Zc) Zb)
  ·(conv => whnf)
   refine st ?_
   exact wx (WS.mk (Zd (Zs (web hc1)) Zc) Zb)
 obtain ⟨r0, hw⟩ := hw
 (conv => whnf)
 refine AWP.weak r0 hw ?_
 obtain rfl := Zg hF
 refine ns ?_
 refine Exists.intro [] ?_
 refine st ?_
 exact wx (WS.mk (tc Zc) Zb)

def Zbh (s : ByteArray) (i_3 : Nat) : Option (Bool) :=
 if (decide (((i_3 : Nat) : Int) < ((s.size : Nat) : Int))) = true then
 (btI s ((i_3 : Nat) : Int)) >>= fun y47 =>
 ZcG ((y47.toNat : Nat) : Int) >>= fun r48 =>
 (if (!r48) = true then (btI s ((i_3 : Nat) : Int)) >>= fun y49 =>
 Zb7 ((y49.toNat : Nat) : Int) >>= fun r50 =>
 some (!r50) else some false) >>= fun c51 =>
 (if c51 = true then (btI s ((i_3 : Nat) : Int)) >>= fun y52 =>
 ZcA ((y52.toNat : Nat) : Int) >>= fun r53 =>
 some (!r53) else some false) >>= fun c54 =>
 (if c54 = true then (btI s ((i_3 : Nat) : Int)) >>= fun y55 =>
 some (((y55.toNat : Nat) : Int) != 39) else some false) >>= fun c56 =>
 if c56 = true then
 some false
 else
 ZK (i_3 + 1 ≤ 9223372036854775807) >>= fun _ =>
 Zbh s (i_3 + 1)
 else
 some true
 partial_fixpoint
def Zbh.M (s : ByteArray) (i_3 : Nat) (r : Bool) : Prop :=
 AWL Tryz.prog 55 (Code.sub (Zq Tryz.f86) [1, 1, 0, 1, 0, 0]) (Code.cont Tryz.prog 55 (Zq Tryz.f86) [1, 1, 0, 1, 0] (ZbS tab Tryz.f86.results (ZbX (.c none (.v (.bool r))) []))) ⟨[(0, .c none (.v (.string s))), (3, .c none (.v (.int .i64 ((i_3 : Nat) : Int))))], []⟩
theorem Zlp (s : ByteArray) (i_3 : Nat) : ∀ r, Zbh s i_3 = some r → Zbh.M s i_3 r := by
 refine Zbh.partial_correctness s (fun i_3 r => Zbh.M s i_3 r) ?_ i_3
 intro lazycref01_word_l1' Zg5 i_3 r hF
 have Zlo := fun (_s : ByteArray) (i_3 : Nat) => Zg5 i_3
 clear Zg5
 unfold Zbh.M
 refine AWL.step ?_
 refine AWP.seq ?_
 refine AWP.seq ?_
 refine ns ?_
 refine nw ?_
 refine Zj hF (fun ZrJ hF => ?_) (fun ZrJ hF => ?_)
 ·refine nw ?_
  refine AWP.seq ?_
  refine AWP.block ?_
  refine AWP.seq ?_
  obtain ⟨y47, hy470, ZGy, hF⟩ := ZcB hF
  obtain ⟨r48, ZH1, hF⟩ := bind_some hF
  obtain ⟨c51, Zfb, hF⟩ := bind_some hF
  obtain ⟨c54, ZeN, hF⟩ := bind_some hF
  obtain ⟨c56, Zhm, hF⟩ := bind_some hF
  refine AWP.cutN (fun T => ∃ r, WS r T ⟨[(0, .c none (.v (.string s))), (3, .c none (.v (.int .i64 ((i_3 : Nat) : Int)))), (54, .c none (.v (.bool c56)))], []⟩) ?_ (fun T hw => ?_)
  ·refine nn ?_
   refine sr ZGy ?_
   refine st ?_
   refine e3 ?_
   refine st ?_
   refine cm (Zk.weak (rn []) (Zik ((y47.toNat : Nat) : Int) _ ZH1) rfl (WS.mk (tc Zc) Zb)) ?_
   refine st ?_
   refine Zl true (fun Zia => ?_) (fun Zia => ?_)
   ·have Zfb := ift Zia Zfb
    obtain ⟨y49, hy490, ZHo, Zfb⟩ := ZcB Zfb
    obtain ⟨r50, ZHi, Zfb⟩ := bind_some Zfb
    (conv => whnf)
    refine sr ZHo ?_
    refine st ?_
    refine e3 ?_
    refine st ?_
    refine cm (Zk.weak (rn []) (ZfZ ((y49.toNat : Nat) : Int) _ ZHi) rfl (WS.mk (tc Zc) Zb)) ?_
    refine st ?_
    obtain rfl := Zg Zfb
    refine st ?_
    refine Zl true (fun Znm => ?_) (fun Znm => ?_)
    ·have ZeN := ift (And.intro Zia Znm) ZeN
     obtain ⟨y52, hy520, ZHy, ZeN⟩ := ZcB ZeN
     obtain ⟨r53, ZCL, ZeN⟩ := bind_some ZeN
     (conv => whnf)
     refine sr ZHy ?_
     refine st ?_
     refine e3 ?_
     refine st ?_
     refine cm (Zk.weak (rn []) (Zid ((y52.toNat : Nat) : Int) _ ZCL) rfl (WS.mk (tc Zc) Zb)) ?_
     refine st ?_
     obtain rfl := Zg ZeN
     refine st ?_
     refine Zl true (fun Zv0 => ?_) (fun Zv0 => ?_)
     ·have Zhm := ift (And.intro Zia (And.intro Znm Zv0)) Zhm
      obtain ⟨y55, hy550, ZGI, Zhm⟩ := ZcB Zhm
      (conv => whnf)
      refine sr ZGI ?_
      obtain rfl := Zg Zhm
      refine st ?_
      exact wx (WS.mk (tc (tc (Zd (Zs (web (And.intro Zia (And.intro Znm Zv0)))) Zc))) Zb)
     ·have Zhm := ife (And.intro Zia (And.intro Znm Zv0)) Zhm
      (conv => whnf)
      obtain rfl := Zg Zhm
      refine st ?_
      exact wx (WS.mk (tc (tc (Zd (Zs (web (And.intro Zia (And.intro Znm Zv0)))) Zc))) Zb)
    ·have ZeN := ife (And.intro Zia Znm) ZeN
     (conv => whnf)
     obtain rfl := Zg ZeN
     have Zhm := ife (And.intro Zia Znm) Zhm
     obtain rfl := Zg Zhm
     refine st ?_
     exact wx (WS.mk (tc (tc (Zd (Zs (web (And.intro Zia Znm))) Zc))) Zb)
   ·have Zfb := ife Zia Zfb
    (conv => whnf)
    obtain rfl := Zg Zfb
    have ZeN := ife Zia ZeN
    obtain rfl := Zg ZeN
    have Zhm := ife Zia Zhm
    obtain rfl := Zg Zhm
    refine st ?_
    exact wx (WS.mk (tc (tc (Zd (Zs (web Zia)) Zc))) Zb)
  obtain ⟨r0, hw⟩ := hw
  (conv => whnf)
  refine AWP.weak r0 hw ?_
  refine nw ?_
  refine Zj hF (fun ZHa hF => ?_) (fun ZHa hF => ?_)
  ·refine AWP.seq ?_
   refine ns ?_
   obtain rfl := Zg hF
   refine ns ?_
   refine Exists.intro [] ?_
   refine st ?_
   exact wx (WS.mk (tc Zc) Zb)
  ·refine nw ?_
   obtain ⟨ZCi, hF⟩ := Zy hF
   refine ns ?_
   refine AWL.weak (rn []) ?_ (Zlo s (i_3 + 1) _ hF)
   exact (WS.mk (tc (Zd (Zs (Zdd (Zc8 ZCi))) Zc)) Zb)
 ·refine nw ?_
  refine AWP.seq ?_
  refine ns ?_
  obtain rfl := Zg hF
  refine ns ?_
  refine Exists.intro [] ?_
  refine st ?_
  exact wx (WS.mk (tc Zc) Zb)

def Zde (s : ByteArray) : Option (Bool) :=
 (if ((decide (((s.size : Nat) : Int) < 1)) || (decide (((s.size : Nat) : Int) > 64))) = true then some true else (btI s 0) >>= fun y8 =>
 ZcG ((y8.toNat : Nat) : Int) >>= fun r9 =>
 (if (!r9) = true then (btI s 0) >>= fun y10 =>
 Zb7 ((y10.toNat : Nat) : Int) >>= fun r11 =>
 some (!r11) else some false) >>= fun c12 =>
 some c12) >>= fun c13 =>
 if c13 = true then
 some false
 else
 Zbh s 0
def Zde.M (s : ByteArray) (r : Bool) : Prop :=
 Zk Tryz.prog 86 [.c none (.v (.string s))] [] (fun d b => d = .c none (.v (.bool r)) ∧ b = [])
theorem Znz (s : ByteArray) (r : Bool) (hF : Zde s = some r) : Zde.M s r := by
 unfold Zde at hF
 unfold Zde.M
 refine en Tryz.func86 ?_
 refine AWP.seq ?_
 refine ns ?_
 refine AWP.seq ?_
 refine AWP.seq ?_
 obtain ⟨c13, Zcx, hF⟩ := bind_some hF
 refine AWP.cutN (fun T => ∃ r, WS r T ⟨[(0, .c none (.v (.string s))), (23, .c none (.v (.bool c13)))], []⟩) ?_ (fun T hw => ?_)
 ·refine ns ?_
  refine Zl false (fun Zc5 => ?_) (fun Zc5 => ?_)
  ·(conv => whnf)
   have Zcx := ift Zc5 Zcx
   obtain rfl := Zg Zcx
   refine st ?_
   exact wx (WS.mk (tc (Zd (Zs (web Zc5)) Zc)) Zb)
  ·(conv => whnf)
   refine st ?_
   refine Zl false (fun Zf2 => ?_) (fun Zf2 => ?_)
   ·have Zcx := ift (And.intro Zc5 Zf2) Zcx
    (conv => whnf)
    obtain rfl := Zg Zcx
    refine st ?_
    exact wx (WS.mk (tc (Zd (Zs (web (And.intro Zc5 Zf2))) Zc)) Zb)
   ·have Zcx := ife (And.intro Zc5 Zf2) Zcx
    obtain ⟨y8, hy80, hy8, Zcx⟩ := ZcB Zcx
    obtain ⟨r9, hr9, Zcx⟩ := bind_some Zcx
    obtain ⟨c12, Zd9, Zcx⟩ := bind_some Zcx
    (conv => whnf)
    refine sr hy8 ?_
    refine st ?_
    refine e3 ?_
    refine st ?_
    refine cm (Zk.weak (rn []) (Zik ((y8.toNat : Nat) : Int) _ hr9) rfl (WS.mk (tc Zc) Zb)) ?_
    refine st ?_
    refine Zl true (fun ZeI => ?_) (fun ZeI => ?_)
    ·have Zd9 := ift (And.intro Zc5 (And.intro Zf2 ZeI)) Zd9
     obtain ⟨y10, ZFe, ZB5, Zd9⟩ := ZcB Zd9
     obtain ⟨r11, Zvo, Zd9⟩ := bind_some Zd9
     (conv => whnf)
     refine sr ZB5 ?_
     refine st ?_
     refine e3 ?_
     refine st ?_
     refine cm (Zk.weak (rn []) (ZfZ ((y10.toNat : Nat) : Int) _ Zvo) rfl (WS.mk (tc Zc) Zb)) ?_
     refine st ?_
     obtain rfl := Zg Zd9
     obtain rfl := Zg Zcx
     refine st ?_
     exact wx (WS.mk (tc (Zd (Zs (web (And.intro Zc5 (And.intro Zf2 ZeI)))) Zc)) Zb)
    ·have Zd9 := ife (And.intro Zc5 (And.intro Zf2 ZeI)) Zd9
     (conv => whnf)
     obtain rfl := Zg Zd9
     obtain rfl := Zg Zcx
     refine st ?_
     exact wx (WS.mk (tc (Zd (Zs (web (And.intro Zc5 (And.intro Zf2 ZeI)))) Zc)) Zb)
 obtain ⟨r0, hw⟩ := hw
 (conv => whnf)
 refine AWP.weak r0 hw ?_
 refine nw ?_
 refine Zj hF (fun Zfl hF => ?_) (fun Zfl hF => ?_)
 ·refine AWP.seq ?_
  refine ns ?_
  obtain rfl := Zg hF
  refine ns ?_
  refine Exists.intro [] ?_
  refine st ?_
  exact wx (WS.mk (tc Zc) Zb)
 ·refine nw ?_
  refine AWP.seq ?_
  refine AWP.seq ?_
  refine ns ?_
  refine AWP.block ?_
  refine AWP.loop ?_
  refine AWL.weak (rn []) ?_ (Zlp s 0 _ hF)
  exact (WS.mk (tc (tc Zc)) Zb)

def Zbe (s : ByteArray) : Option (Int) :=
 Zde s >>= fun r10 =>
 if r10 = true then
 Zca s >>= fun r14 =>
 if r14 = true then
 some 5
 else
 (btI s 0) >>= fun y16 =>
 Zb7 ((y16.toNat : Nat) : Int) >>= fun r17 =>
 if r17 = true then
 some 2
 else
 some 1
 else
 ZcM s >>= fun r19 =>
 if r19 = true then
 ZaX s >>= fun r23 =>
 if r23 = true then
 some 6
 else
 (btI s 0) >>= fun y25 =>
 if (((y25.toNat : Nat) : Int) == 58) = true then
 some 4
 else
 some 3
 else
 some 0
def Zbe.M (s : ByteArray) (r : Int) : Prop :=
 Zk Tryz.prog 59 [.c none (.v (.string s))] [] (fun d b => d = .c none (.v (.int .i64 r)) ∧ b = [])
theorem Zdy (s : ByteArray) (r : Int) (hF : Zbe s = some r) : Zbe.M s r := by
 unfold Zbe at hF
 unfold Zbe.M
 refine en Tryz.func59 ?_
 refine AWP.seq ?_
 refine ns ?_
 refine AWP.seq ?_
 refine AWP.seq ?_
 obtain ⟨r10, Zvq, hF⟩ := bind_some hF
 refine ns ?_
 refine e3 ?_
 refine st ?_
 refine cm (Zk.weak (rn []) (Znz s _ Zvq) rfl (WS.mk (tc Zc) Zb)) ?_
 refine st ?_
 refine nw ?_
 refine Zj hF (fun Zct hF => ?_) (fun Zct hF => ?_)
 ·refine AWP.seq ?_
  refine AWP.seq ?_
  obtain ⟨r14, Zq7, hF⟩ := bind_some hF
  refine ns ?_
  refine e3 ?_
  refine st ?_
  refine cm (Zk.weak (rn []) (Zks s _ Zq7) rfl (WS.mk (tc Zc) Zb)) ?_
  refine st ?_
  refine nw ?_
  refine Zj hF (fun Zf2 hF => ?_) (fun Zf2 hF => ?_)
  ·refine AWP.seq ?_
   refine ns ?_
   obtain rfl := Zg hF
   refine ns ?_
   refine Exists.intro [] ?_
   refine st ?_
   exact wx (WS.mk (tc Zc) Zb)
  ·refine nw ?_
   refine AWP.seq ?_
   refine AWP.seq ?_
   obtain ⟨y16, hy160, ZGj, hF⟩ := ZcB hF
   obtain ⟨r17, ZHV, hF⟩ := bind_some hF
   refine nn ?_
   refine sr ZGj ?_
   refine st ?_
   refine e3 ?_
   refine st ?_
   refine cm (Zk.weak (rn []) (ZfZ ((y16.toNat : Nat) : Int) _ ZHV) rfl (WS.mk (tc Zc) Zb)) ?_
   refine st ?_
   refine nw ?_
   refine Zj hF (fun ZjH hF => ?_) (fun ZjH hF => ?_)
   ·refine AWP.seq ?_
    refine ns ?_
    obtain rfl := Zg hF
    refine ns ?_
    refine Exists.intro [] ?_
    refine st ?_
    exact wx (WS.mk (tc Zc) Zb)
   ·refine nw ?_
    refine AWP.seq ?_
    refine ns ?_
    obtain rfl := Zg hF
    refine ns ?_
    refine Exists.intro [] ?_
    refine st ?_
    exact wx (WS.mk (tc Zc) Zb)
 ·refine nw ?_
  refine AWP.seq ?_
  refine AWP.seq ?_
  obtain ⟨r19, ZsL, hF⟩ := bind_some hF
  refine ns ?_
  refine e3 ?_
  refine st ?_
  refine cm (Zk.weak (rn []) (Zlu s _ ZsL) rfl (WS.mk (tc Zc) Zb)) ?_
  refine st ?_
  refine nw ?_
  refine Zj hF (fun ZuN hF => ?_) (fun ZuN hF => ?_)
  ·refine AWP.seq ?_
   refine AWP.seq ?_
   obtain ⟨r23, Zy9, hF⟩ := bind_some hF
   refine ns ?_
   refine e3 ?_
   refine st ?_
   refine cm (Zk.weak (rn []) (Zh9 s _ Zy9) rfl (WS.mk (tc Zc) Zb)) ?_
   refine st ?_
   refine nw ?_
   refine Zj hF (fun ZAv hF => ?_) (fun ZAv hF => ?_)
   ·refine AWP.seq ?_
    refine ns ?_
    obtain rfl := Zg hF
    refine ns ?_
    refine Exists.intro [] ?_
    refine st ?_
    exact wx (WS.mk (tc Zc) Zb)
   ·refine nw ?_
    refine AWP.seq ?_
    refine AWP.seq ?_
    obtain ⟨y25, hy250, ZG5, hF⟩ := ZcB hF
    refine nn ?_
    refine sr ZG5 ?_
    refine st ?_
    refine nw ?_
    refine Zj hF (fun Zk3 hF => ?_) (fun Zk3 hF => ?_)
    ·refine AWP.seq ?_
     refine ns ?_
     obtain rfl := Zg hF
     refine ns ?_
     refine Exists.intro [] ?_
     refine st ?_
     exact wx (WS.mk (tc Zc) Zb)
    ·refine nw ?_
     refine AWP.seq ?_
     refine ns ?_
     obtain rfl := Zg hF
     refine ns ?_
     refine Exists.intro [] ?_
     refine st ?_
     exact wx (WS.mk (tc Zc) Zb)
  ·refine nw ?_
   refine AWP.seq ?_
   refine ns ?_
   obtain rfl := Zg hF
   refine ns ?_
   refine Exists.intro [] ?_
   refine st ?_
   exact wx (WS.mk (tc Zc) Zb)

def Zcy (s : ByteArray) : Option (Bool) :=
 Zbe s >>= fun r1 =>
 some ((((r1 == 1) || (r1 == 2)) || (r1 == 3)) || (r1 == 4))
def Zcy.M (s : ByteArray) (r : Bool) : Prop :=
 Zk Tryz.prog 109 [.c none (.v (.string s))] [] (fun d b => d = .c none (.v (.bool r)) ∧ b = [])
theorem Zij (s : ByteArray) (r : Bool) (hF : Zcy s = some r) : Zcy.M s r := by
 unfold Zcy at hF
 unfold Zcy.M
 refine en Tryz.func109 ?_
 refine AWP.seq ?_
 refine ns ?_
 refine AWP.seq ?_
 obtain ⟨r1, hr1, hF⟩ := bind_some hF
 refine ns ?_
 refine e3 ?_
 refine st ?_
 refine cm (Zk.weak (rn []) (Zdy s _ hr1) rfl (WS.mk (tc Zc) Zb)) ?_
 refine st ?_
 refine AWP.seq ?_
 refine AWP.cutN (fun T => ∃ r, WS r T ⟨[(2, .c none (.v (.bool ((((r1 == 1) || (r1 == 2)) || (r1 == 3)) || (r1 == 4)))))], []⟩) ?_ (fun T hw => ?_)
 ·refine ns ?_
  refine Zl false (fun hc2 => ?_) (fun hc2 => ?_)
  ·(conv => whnf)
   refine st ?_
   exact wx (WS.mk (Zd (Zs (web hc2)) Zc) Zb)
  ·(conv => whnf)
   refine st ?_
   refine Zl false (fun hc3 => ?_) (fun hc3 => ?_)
   ·(conv => whnf)
    refine st ?_
    exact wx (WS.mk (Zd (Zs (web (And.intro hc2 hc3))) Zc) Zb)
   ·(conv => whnf)
    refine st ?_
    refine Zl false (fun hc4 => ?_) (fun hc4 => ?_)
    ·(conv => whnf)
     refine st ?_
     exact wx (WS.mk (Zd (Zs (web (And.intro hc2 (And.intro hc3 hc4)))) Zc) Zb)
    ·(conv => whnf)
     refine st ?_
     exact wx (WS.mk (Zd (Zs (web (And.intro hc2 (And.intro hc3 hc4)))) Zc) Zb)
 obtain ⟨r0, hw⟩ := hw
 (conv => whnf)
 refine AWP.weak r0 hw ?_
 obtain rfl := Zg hF
 refine ns ?_
 refine Exists.intro [] ?_
 refine st ?_
 exact wx (WS.mk (tc Zc) Zb)

def Zdg (module : ByteArray) (name_ : ByteArray) : Option (ByteArray) :=
 Zbe module >>= fun r5 =>
 (if (r5 != 2) = true then some true else Zcy name_ >>= fun r6 =>
 some (!r6)) >>= fun c7 =>
 if c7 = true then
 some (ByteArray.mk #[])
 else
 ZK (((module.size + (ByteArray.mk #[46]).size : Nat) : Int) ≤ IntKind.i64.max) >>= fun _ =>
 ZK ((((module ++ (ByteArray.mk #[46])).size + name_.size : Nat) : Int) ≤ IntKind.i64.max) >>= fun _ =>
 some ((module ++ (ByteArray.mk #[46])) ++ name_)
def Zdg.M (module : ByteArray) (name_ : ByteArray) (r : ByteArray) : Prop :=
 Zk Tryz.prog 129 [.c none (.v (.string module)), .c none (.v (.string name_))] [] (fun d b => d = .c none (.v (.string r)) ∧ b = [])
theorem Znq (module : ByteArray) (name_ : ByteArray) (r : ByteArray) (hF : Zdg module name_ = some r) : Zdg.M module name_ r := by
 unfold Zdg at hF
 unfold Zdg.M
 refine en Tryz.func129 ?_
 refine AWP.seq ?_
 refine ns ?_
 refine AWP.seq ?_
 refine AWP.seq ?_
 obtain ⟨r5, hr5, hF⟩ := bind_some hF
 obtain ⟨c7, hc7, hF⟩ := bind_some hF
 refine AWP.cutN (fun T => ∃ r, WS r T ⟨[(0, .c none (.v (.string module))), (1, .c none (.v (.string name_))), (12, .c none (.v (.bool c7)))], []⟩) ?_ (fun T hw => ?_)
 ·refine ns ?_
  refine e3 ?_
  refine st ?_
  refine cm (Zk.weak (rn []) (Zdy module _ hr5) rfl (WS.mk (tc Zc) Zb)) ?_
  refine st ?_
  refine Zl false (fun hc8 => ?_) (fun hc8 => ?_)
  ·have hc7 := ift hc8 hc7
   (conv => whnf)
   obtain rfl := Zg hc7
   refine st ?_
   exact wx (WS.mk (tc (tc (Zd (Zs (web hc8)) Zc))) Zb)
  ·have hc7 := ife hc8 hc7
   obtain ⟨r6, hr6, hc7⟩ := bind_some hc7
   (conv => whnf)
   refine st ?_
   refine e3 ?_
   refine st ?_
   refine cm (Zk.weak (rn []) (Zij name_ _ hr6) rfl (WS.mk (tc Zc) Zb)) ?_
   refine st ?_
   obtain rfl := Zg hc7
   refine st ?_
   exact wx (WS.mk (tc (tc (Zd (Zs (web hc8)) Zc))) Zb)
 obtain ⟨r0, hw⟩ := hw
 (conv => whnf)
 refine AWP.weak r0 hw ?_
 refine nw ?_
 refine Zj hF (fun hc9 hF => ?_) (fun hc9 hF => ?_)
 ·refine AWP.seq ?_
  refine ns ?_
  obtain rfl := Zg hF
  refine ns ?_
  refine Exists.intro [] ?_
  refine st ?_
  exact wx (WS.mk (tc Zc) Zb)
 ·refine nw ?_
  refine AWP.seq ?_
  obtain ⟨ZyP, hF⟩ := Zy hF
  obtain ⟨ZDO, hF⟩ := Zy hF
  refine ns ?_
  refine And.intro ZyP ?_
  refine st ?_
  refine And.intro ZDO ?_
  refine st ?_
  obtain rfl := Zg hF
  refine ns ?_
  refine Exists.intro [] ?_
  refine st ?_
  exact wx (WS.mk (tc Zc) Zb)

def Za2 (s : ByteArray) (i_5 : Nat) : Option (ByteArray × ByteArray × Bool) :=
 if (decide (((i_5 : Nat) : Int) < ((s.size : Nat) : Int))) = true then
 (btI s ((i_5 : Nat) : Int)) >>= fun y60 =>
 if (((y60.toNat : Nat) : Int) != 46) = true then
 ZK (i_5 + 1 ≤ 9223372036854775807) >>= fun _ =>
 Za2 s (i_5 + 1)
 else
 (slS s ((0 : Nat) : Int) ((i_5 : Nat) : Int)) >>= fun z76 =>
 ZK (i_5 + 1 ≤ 9223372036854775807) >>= fun _ =>
 (slS s (IntKind.i64.wrap (((i_5 : Nat) : Int) + 1)) ((s.size : Nat) : Int)) >>= fun z78 =>
 Zdg z76 z78 >>= fun r79 =>
 if (r79.toList == (ByteArray.mk #[]).toList) = true then
 some ((ByteArray.mk #[]), (ByteArray.mk #[]), false)
 else
 (slS s ((0 : Nat) : Int) ((i_5 : Nat) : Int)) >>= fun z84 =>
 ZK (i_5 + 1 ≤ 9223372036854775807) >>= fun _ =>
 (slS s (IntKind.i64.wrap (((i_5 : Nat) : Int) + 1)) ((s.size : Nat) : Int)) >>= fun z86 =>
 some (z84, z86, true)
 else
 some ((ByteArray.mk #[]), (ByteArray.mk #[]), false)
 partial_fixpoint
def Za2.M (s : ByteArray) (i_5 : Nat) (r : ByteArray × ByteArray × Bool) : Prop :=
 AWL Tryz.prog 32 (Code.sub (Zq Tryz.f108) [1, 0, 1, 0, 0]) (Code.cont Tryz.prog 32 (Zq Tryz.f108) [1, 0, 1, 0] (ZbS tab Tryz.f108.results (ZbX (.tup [.c (.v (.string r.1)), .c (.v (.string r.2.1)), .c (.v (.bool r.2.2))]) []))) ⟨[(0, .c none (.v (.string s))), (5, .c none (.v (.int .i64 ((i_5 : Nat) : Int))))], []⟩
theorem ZkB (s : ByteArray) (i_5 : Nat) : ∀ r, Za2 s i_5 = some r → Za2.M s i_5 r := by
 refine Za2.partial_correctness s (fun i_5 r => Za2.M s i_5 r) ?_ i_5
 intro lazycref01_Split_l1' ZgB i_5 r hF
 have Zkw := fun (_s : ByteArray) (i_5 : Nat) => ZgB i_5
 clear ZgB
 unfold Za2.M
 refine AWL.step ?_
 refine AWP.seq ?_
 refine AWP.seq ?_
 refine ns ?_
 refine nw ?_
 refine Zj hF (fun Zia hF => ?_) (fun Zia hF => ?_)
 ·refine nw ?_
  refine AWP.seq ?_
  refine AWP.block ?_
  refine AWP.seq ?_
  refine AWP.seq ?_
  obtain ⟨y60, hy600, ZGF, hF⟩ := ZcB hF
  refine nn ?_
  refine sr ZGF ?_
  refine st ?_
  refine nw ?_
  refine Zj hF (fun ZHT hF => ?_) (fun ZHT hF => ?_)
  ·refine nw ?_
   obtain ⟨ZGl, hF⟩ := Zy hF
   refine ns ?_
   refine AWL.weak (rn []) ?_ (Zkw s (i_5 + 1) _ hF)
   exact (WS.mk (tc (Zd (Zs (Zdd (Zc8 ZGl))) Zc)) Zb)
  ·refine nw ?_
   refine AWP.seq ?_
   refine AWP.seq ?_
   obtain ⟨z76, ZEG, ZF1, ZEW, ZGP, hF⟩ := ZfG hF
   obtain ⟨hg77, hF⟩ := Zy hF
   obtain ⟨z78, ZFf, ZEO, ZFr, ZHb, hF⟩ := ZfG hF
   obtain ⟨r79, ZHQ, hF⟩ := bind_some hF
   refine nn ?_
   refine Or.inl (Or.inl (Exists.intro 7 (Exists.intro [[], [], [], [], [], [], []] (Exists.intro [([16, 17, 18, 19, 20, 21, 22], [], []), ([16, 17, 18, 19, 20, 21, 22], [], []), ([18, 19, 20, 21, 22], [], []), ([16, 17, 18, 19, 20, 21, 22], [], []), ([16, 17, 18, 19, 20, 21, 22], [], []), ([16, 17, 18, 19, 21, 22], [], []), ([16, 17, 18, 22], [], [])] (Exists.intro [16, 17, 18, 19, 20, 21, 22] (And.intro (by decide +kernel) ?_))))))
   refine dp ?_
   refine dp ?_
   (refine st ?_; apply Exists.intro; apply Exists.intro; apply And.intro; (focus ((repeat (first | (rw [← ZGP]) | ((conv => whnf); (with_reducible refine And.intro ?_ ?_); (focus (first | exact Eq.refl _ | exact trivial | (with_reducible assumption) | (with_reducible exact Int.natCast_nonneg _) | exact Nat.le_of_ble_eq_true (Eq.refl true) | exact ZdG (Eq.refl _) (Eq.refl _) (Eq.refl _) | decide))) | ((with_reducible refine And.intro ?_ ?_); (focus (first | exact ZEG | exact ZF1 | exact ZEW))))) <;> (exact rfl))); apply And.intro; (focus exact rfl); (conv => whnf))
   refine dp ?_
   refine dp ?_
   refine dp ?_
   (refine st ?_; apply Exists.intro; apply Exists.intro; apply And.intro; (focus ((repeat (first | (rw [← ZHb]) | ((conv => whnf); (with_reducible refine And.intro ?_ ?_); (focus (first | exact Eq.refl _ | exact trivial | (with_reducible assumption) | (with_reducible exact Int.natCast_nonneg _) | exact Nat.le_of_ble_eq_true (Eq.refl true) | exact ZdG (Eq.refl _) (Eq.refl _) (Eq.refl _) | decide))) | ((with_reducible refine And.intro ?_ ?_); (focus (first | exact ZFf | exact ZEO | exact ZFr))))) <;> (exact rfl))); apply And.intro; (focus exact rfl); (conv => whnf))
   refine st ?_
   refine e3 ?_
   refine st ?_
   refine cm (Zk.weak (rn []) (Znq z76 z78 _ ZHQ) rfl (WS.mk (tc (tc Zc)) Zb)) ?_
   refine st ?_
   refine nw ?_
   refine Zj hF (fun ZH5 hF => ?_) (fun ZH5 hF => ?_)
   ·refine AWP.seq ?_
    refine ns ?_
    obtain rfl := Zg hF
    refine ns ?_
    refine Exists.intro [] ?_
    refine st ?_
    exact wx (WS.mk (Zd (ZdE (Zc6 (WE.refl _) (Zc6 (WE.refl _) (Zc6 (WE.refl _) ZdF)))) Zc) Zb)
   ·refine nw ?_
    refine AWP.seq ?_
    obtain ⟨z84, ZFk, ZEL, ZEl, ZG6, hF⟩ := ZfG hF
    obtain ⟨hg85, hF⟩ := Zy hF
    obtain ⟨z86, ZFH, ZFa, ZEF, ZGC, hF⟩ := ZfG hF
    refine nn ?_
    refine Or.inl (Or.inl (Exists.intro 8 (Exists.intro [[], [], [], [], [], [], [], []] (Exists.intro [([25, 26, 27, 28, 29, 30, 31, 2], [], []), ([25, 26, 27, 28, 29, 30, 31, 2], [], []), ([27, 28, 29, 30, 31, 2], [], []), ([25, 26, 27, 28, 29, 30, 31, 2], [], []), ([25, 26, 27, 28, 29, 30, 31, 2], [], []), ([25, 26, 27, 28, 30, 31, 2], [], []), ([25, 26, 27, 31, 2], [], []), ([28, 29, 30, 31, 2], [], [])] (Exists.intro [25, 26, 27, 28, 29, 30, 31, 2] (And.intro (by decide +kernel) ?_))))))
    refine dp ?_
    refine dp ?_
    (refine st ?_; apply Exists.intro; apply Exists.intro; apply And.intro; (focus ((repeat (first | (rw [← ZG6]) | ((conv => whnf); (with_reducible refine And.intro ?_ ?_); (focus (first | exact Eq.refl _ | exact trivial | (with_reducible assumption) | (with_reducible exact Int.natCast_nonneg _) | exact Nat.le_of_ble_eq_true (Eq.refl true) | exact ZdG (Eq.refl _) (Eq.refl _) (Eq.refl _) | decide))) | ((with_reducible refine And.intro ?_ ?_); (focus (first | exact ZFk | exact ZEL | exact ZEl))))) <;> (exact rfl))); apply And.intro; (focus exact rfl); (conv => whnf))
    refine dp ?_
    refine dp ?_
    refine dp ?_
    (refine st ?_; apply Exists.intro; apply Exists.intro; apply And.intro; (focus ((repeat (first | (rw [← ZGC]) | ((conv => whnf); (with_reducible refine And.intro ?_ ?_); (focus (first | exact Eq.refl _ | exact trivial | (with_reducible assumption) | (with_reducible exact Int.natCast_nonneg _) | exact Nat.le_of_ble_eq_true (Eq.refl true) | exact ZdG (Eq.refl _) (Eq.refl _) (Eq.refl _) | decide))) | ((with_reducible refine And.intro ?_ ?_); (focus (first | exact ZFH | exact ZFa | exact ZEF))))) <;> (exact rfl))); apply And.intro; (focus exact rfl); (conv => whnf))
    refine dp ?_
    refine st ?_
    obtain rfl := Zg hF
    refine ns ?_
    refine Exists.intro [] ?_
    refine st ?_
    exact wx (WS.mk (Zd (ZdE (Zc6 (WE.refl _) (Zc6 (WE.refl _) (Zc6 (WE.refl _) ZdF)))) Zc) Zb)
 ·refine nw ?_
  refine AWP.seq ?_
  refine ns ?_
  obtain rfl := Zg hF
  refine ns ?_
  refine Exists.intro [] ?_
  refine st ?_
  exact wx (WS.mk (Zd (ZdE (Zc6 (WE.refl _) (Zc6 (WE.refl _) (Zc6 (WE.refl _) ZdF)))) Zc) Zb)

def Zcz (s : ByteArray) : Option (ByteArray × ByteArray × Bool) :=
 Za2 s 0
def Zcz.M (s : ByteArray) (r : ByteArray × ByteArray × Bool) : Prop :=
 Zk Tryz.prog 108 [.c none (.v (.string s))] [] (fun d b => d = .tup [.c (.v (.string r.1)), .c (.v (.string r.2.1)), .c (.v (.bool r.2.2))] ∧ b = [])
theorem Zii (s : ByteArray) (r : ByteArray × ByteArray × Bool) (hF : Zcz s = some r) : Zcz.M s r := by
 unfold Zcz at hF
 unfold Zcz.M
 refine en Tryz.func108 ?_
 refine AWP.seq ?_
 refine ns ?_
 refine AWP.seq ?_
 refine AWP.seq ?_
 refine ns ?_
 refine AWP.block ?_
 refine AWP.loop ?_
 refine AWL.weak (rn []) ?_ (ZkB s 0 _ hF)
 exact (WS.mk (tc (tc Zc)) Zb)

def Zcw (s : ByteArray) : Option (Bool) :=
 Zcz s >>= fun r1 =>
 (if r1.2.2 = true then some true else Zcy s >>= fun r2 =>
 some r2) >>= fun c3 =>
 some c3
def Zcw.M (s : ByteArray) (r : Bool) : Prop :=
 Zk Tryz.prog 84 [.c none (.v (.string s))] [] (fun d b => d = .c none (.v (.bool r)) ∧ b = [])
theorem ZiK (s : ByteArray) (r : Bool) (hF : Zcw s = some r) : Zcw.M s r := by
 unfold Zcw at hF
 unfold Zcw.M
 refine en Tryz.func84 ?_
 refine AWP.seq ?_
 refine ns ?_
 refine AWP.seq ?_
 obtain ⟨r1, hr1, hF⟩ := bind_some hF
 refine ns ?_
 refine e3 ?_
 refine st ?_
 refine cm (Zk.weak (rn []) (Zii s _ hr1) rfl (WS.mk (tc Zc) Zb)) ?_
 refine st ?_
 refine AWP.seq ?_
 obtain ⟨c3, hc3, hF⟩ := bind_some hF
 refine AWP.cutN (fun T => ∃ r, WS r T ⟨[(2, .c none (.v (.bool c3)))], []⟩) ?_ (fun T hw => ?_)
 ·refine ns ?_
  refine Zl false (fun hc4 => ?_) (fun hc4 => ?_)
  ·have hc3 := ift hc4 hc3
   (conv => whnf)
   obtain rfl := Zg hc3
   refine st ?_
   exact wx (WS.mk (Zd (Zs (web hc4)) Zc) Zb)
  ·have hc3 := ife hc4 hc3
   obtain ⟨r2, hr2, hc3⟩ := bind_some hc3
   (conv => whnf)
   refine st ?_
   refine e3 ?_
   refine st ?_
   refine cm (Zk.weak (rn []) (Zij s _ hr2) rfl (WS.mk (tc Zc) Zb)) ?_
   refine st ?_
   obtain rfl := Zg hc3
   refine st ?_
   exact wx (WS.mk (Zd (Zs (web hc4)) Zc) Zb)
 obtain ⟨r0, hw⟩ := hw
 (conv => whnf)
 refine AWP.weak r0 hw ?_
 obtain rfl := Zg hF
 refine ns ?_
 refine Exists.intro [] ?_
 refine st ?_
 exact wx (WS.mk (tc Zc) Zb)

def ZaN (s : ByteArray) (n_4 : Int) (i_5 : Nat) : Option (Int × Bool) :=
 if (decide (((i_5 : Nat) : Int) < ((s.size : Nat) : Int))) = true then
 (btI s ((i_5 : Nat) : Int)) >>= fun y37 =>
 ZcA ((y37.toNat : Nat) : Int) >>= fun r38 =>
 if (!r38) = true then
 some (0, false)
 else
 (btI s ((i_5 : Nat) : Int)) >>= fun y40 =>
 if (decide (n_4 > (IntKind.i64.wrap (Int.tdiv (IntKind.i64.wrap (9223372036854775807 - (IntKind.i64.wrap (IntKind.u8.wrap (((y40.toNat : Nat) : Int) - 48))))) 10)))) = true then
 some (0, false)
 else
 ZK (i_5 + 1 ≤ 9223372036854775807) >>= fun _ =>
 ZaN s (IntKind.i64.wrap ((IntKind.i64.wrap (10 * n_4)) + (IntKind.i64.wrap (IntKind.u8.wrap (((y40.toNat : Nat) : Int) - 48))))) (i_5 + 1)
 else
 some (n_4, true)
 partial_fixpoint
def ZaN.M (s : ByteArray) (n_4 : Int) (i_5 : Nat) (r : Int × Bool) : Prop :=
 AWL Tryz.prog 45 (Code.sub (Zq Tryz.f85) [1, 1, 1, 0, 1, 0, 0]) (Code.cont Tryz.prog 45 (Zq Tryz.f85) [1, 1, 1, 0, 1, 0] (ZbS tab Tryz.f85.results (ZbX (.tup [.c (.v (.int .i64 r.1)), .c (.v (.bool r.2))]) []))) ⟨[(0, .c none (.v (.string s))), (4, .c none (.v (.int .i64 n_4))), (5, .c none (.v (.int .i64 ((i_5 : Nat) : Int))))], []⟩
theorem ZjM (s : ByteArray) (n_4 : Int) (i_5 : Nat) : ∀ r, ZaN s n_4 i_5 = some r → ZaN.M s n_4 i_5 r := by
 refine ZaN.partial_correctness s (fun n_4 i_5 r => ZaN.M s n_4 i_5 r) ?_ n_4 i_5
 intro lazycref01_number_l1' Zf8 n_4 i_5 r hF
 have Zkb := fun (_s : ByteArray) (n_4 : Int) (i_5 : Nat) => Zf8 n_4 i_5
 clear Zf8
 unfold ZaN.M
 refine AWL.step ?_
 refine AWP.seq ?_
 refine AWP.seq ?_
 refine ns ?_
 refine nw ?_
 refine Zj hF (fun ZoT hF => ?_) (fun ZoT hF => ?_)
 ·refine nw ?_
  refine AWP.seq ?_
  refine AWP.block ?_
  refine AWP.seq ?_
  refine AWP.seq ?_
  obtain ⟨y37, hy370, ZGi, hF⟩ := ZcB hF
  obtain ⟨r38, Zy5, hF⟩ := bind_some hF
  refine nn ?_
  refine sr ZGi ?_
  refine st ?_
  refine e3 ?_
  refine st ?_
  refine cm (Zk.weak (rn []) (Zid ((y37.toNat : Nat) : Int) _ Zy5) rfl (WS.mk (tc Zc) Zb)) ?_
  refine st ?_
  refine nw ?_
  refine Zj hF (fun Zje hF => ?_) (fun Zje hF => ?_)
  ·refine AWP.seq ?_
   refine ns ?_
   obtain rfl := Zg hF
   refine ns ?_
   refine Exists.intro [] ?_
   refine st ?_
   exact wx (WS.mk (Zd (ZdE (Zc6 (WE.refl _) (Zc6 (WE.refl _) ZdF))) Zc) Zb)
  ·refine nw ?_
   refine AWP.seq ?_
   obtain ⟨y40, hy400, ZE4, hF⟩ := ZcB hF
   refine nn ?_
   refine sr ZE4 ?_
   refine st ?_
   refine AWP.seq ?_
   refine AWP.seq ?_
   refine ns ?_
   refine nw ?_
   refine Zj hF (fun Zv5 hF => ?_) (fun Zv5 hF => ?_)
   ·refine AWP.seq ?_
    refine ns ?_
    obtain rfl := Zg hF
    refine ns ?_
    refine Exists.intro [] ?_
    refine st ?_
    exact wx (WS.mk (Zd (ZdE (Zc6 (WE.refl _) (Zc6 (WE.refl _) ZdF))) Zc) Zb)
   ·refine nw ?_
    refine ns ?_
    obtain ⟨ZD4, hF⟩ := Zy hF
    refine ns ?_
    refine AWL.weak (rn []) ?_ (Zkb s (IntKind.i64.wrap ((IntKind.i64.wrap (10 * n_4)) + (IntKind.i64.wrap (IntKind.u8.wrap (((y40.toNat : Nat) : Int) - 48))))) (i_5 + 1) _ hF)
    exact (WS.mk (tc (tc (Zd (Zs (Zdd (Zc8 ZD4))) Zc))) Zb)
 ·refine nw ?_
  refine AWP.seq ?_
  refine ns ?_
  obtain rfl := Zg hF
  refine ns ?_
  refine Exists.intro [] ?_
  refine st ?_
  exact wx (WS.mk (Zd (ZdE (Zc6 (WE.refl _) (Zc6 (WE.refl _) ZdF))) Zc) Zb)

def Zcj (s : ByteArray) : Option (Int × Bool) :=
 (if (s.toList == (ByteArray.mk #[]).toList) = true then some true else (btI s 0) >>= fun y4 =>
 some ((((y4.toNat : Nat) : Int) == 48) && (decide (((s.size : Nat) : Int) > 1)))) >>= fun c5 =>
 if c5 = true then
 some (0, false)
 else
 ZaN s 0 0
def Zcj.M (s : ByteArray) (r : Int × Bool) : Prop :=
 Zk Tryz.prog 85 [.c none (.v (.string s))] [] (fun d b => d = .tup [.c (.v (.int .i64 r.1)), .c (.v (.bool r.2))] ∧ b = [])
theorem Zme (s : ByteArray) (r : Int × Bool) (hF : Zcj s = some r) : Zcj.M s r := by
 unfold Zcj at hF
 unfold Zcj.M
 refine en Tryz.func85 ?_
 refine AWP.seq ?_
 refine ns ?_
 refine AWP.seq ?_
 refine AWP.seq ?_
 obtain ⟨c5, hc5, hF⟩ := bind_some hF
 refine AWP.cutN (fun T => ∃ r, WS r T ⟨[(0, .c none (.v (.string s))), (18, .c none (.v (.bool c5)))], []⟩) ?_ (fun T hw => ?_)
 ·refine ns ?_
  refine Zl false (fun hc6 => ?_) (fun hc6 => ?_)
  ·have hc5 := ift hc6 hc5
   (conv => whnf)
   obtain rfl := Zg hc5
   refine st ?_
   exact wx (WS.mk (tc (Zd (Zs (web hc6)) Zc)) Zb)
  ·have hc5 := ife hc6 hc5
   obtain ⟨y4, ZE4, hy4, hc5⟩ := ZcB hc5
   (conv => whnf)
   refine sr hy4 ?_
   refine st ?_
   refine Zl true (fun hc7 => ?_) (fun hc7 => ?_)
   ·(conv => whnf)
    obtain rfl := Zg hc5
    refine st ?_
    exact wx (WS.mk (tc (Zd (Zs (web (And.intro hc6 hc7))) Zc)) Zb)
   ·(conv => whnf)
    obtain rfl := Zg hc5
    refine st ?_
    exact wx (WS.mk (tc (Zd (Zs (web (And.intro hc6 hc7))) Zc)) Zb)
 obtain ⟨r0, hw⟩ := hw
 (conv => whnf)
 refine AWP.weak r0 hw ?_
 refine nw ?_
 refine Zj hF (fun hc8 hF => ?_) (fun hc8 hF => ?_)
 ·refine AWP.seq ?_
  refine ns ?_
  obtain rfl := Zg hF
  refine ns ?_
  refine Exists.intro [] ?_
  refine st ?_
  exact wx (WS.mk (Zd (ZdE (Zc6 (WE.refl _) (Zc6 (WE.refl _) ZdF))) Zc) Zb)
 ·refine nw ?_
  refine AWP.seq ?_
  refine ns ?_
  refine AWP.seq ?_
  refine AWP.seq ?_
  refine ns ?_
  refine AWP.block ?_
  refine AWP.loop ?_
  refine AWL.weak (rn []) ?_ (ZjM s 0 0 _ hF)
  exact (WS.mk (tc (tc (tc Zc))) Zb)

def ZaV (s : ByteArray) (Zhn : Int) (i_6 : Nat) : Option (ByteArray × Int × Bool) :=
 if (decide (((i_6 : Nat) : Int) < ((s.size : Nat) : Int))) = true then
 (btI s ((i_6 : Nat) : Int)) >>= fun y29 =>
 if (((y29.toNat : Nat) : Int) == 36) = true then
 ZK (i_6 + 1 ≤ 9223372036854775807) >>= fun _ =>
 ZaV s ((i_6 : Nat) : Int) (i_6 + 1)
 else
 ZK (i_6 + 1 ≤ 9223372036854775807) >>= fun _ =>
 ZaV s Zhn (i_6 + 1)
 else
 (if (decide (Zhn < 0)) = true then some true else (slS s ((0 : Nat) : Int) Zhn) >>= fun z37 =>
 Zcw z37 >>= fun r38 =>
 some (!r38)) >>= fun c39 =>
 if c39 = true then
 some ((ByteArray.mk #[]), 0, false)
 else
 (slS s (IntKind.i64.wrap (Zhn + 1)) ((s.size : Nat) : Int)) >>= fun z42 =>
 Zcj z42 >>= fun r43 =>
 if (!r43.2) = true then
 some ((ByteArray.mk #[]), 0, false)
 else
 (slS s ((0 : Nat) : Int) Zhn) >>= fun z46 =>
 some (z46, r43.1, true)
 partial_fixpoint
def ZaV.M (s : ByteArray) (Zhn : Int) (i_6 : Nat) (r : ByteArray × Int × Bool) : Prop :=
 AWL Tryz.prog 43 (Code.sub (Zq Tryz.f58) [1, 1, 0, 1, 0, 0]) (Code.cont Tryz.prog 43 (Zq Tryz.f58) [1, 1, 0, 1, 0] (ZbS tab Tryz.f58.results (ZbX (.tup [.c (.v (.string r.1)), .c (.v (.int .i64 r.2.1)), .c (.v (.bool r.2.2))]) []))) ⟨[(0, .c none (.v (.string s))), (5, .c none (.v (.int .i64 Zhn))), (6, .c none (.v (.int .i64 ((i_6 : Nat) : Int))))], []⟩
theorem Zlj (s : ByteArray) (Zhn : Int) (i_6 : Nat) : ∀ r, ZaV s Zhn i_6 = some r → ZaV.M s Zhn i_6 r := by
 refine ZaV.partial_correctness s (fun Zhn i_6 r => ZaV.M s Zhn i_6 r) ?_ Zhn i_6
 intro lazycref01_Base_l1' Zha Zhn i_6 r hF
 have Zho := fun (_s : ByteArray) (Zhn : Int) (i_6 : Nat) => Zha Zhn i_6
 clear Zha
 unfold ZaV.M
 refine AWL.step ?_
 refine AWP.seq ?_
 refine AWP.seq ?_
 refine ns ?_
 refine nw ?_
 refine Zj hF (fun ZzH hF => ?_) (fun ZzH hF => ?_)
 ·refine nw ?_
  refine AWP.seq ?_
  refine AWP.block ?_
  refine AWP.seq ?_
  obtain ⟨y29, hy290, ZHR, hF⟩ := ZcB hF
  refine nn ?_
  refine sr ZHR ?_
  refine st ?_
  refine nw ?_
  refine Zj hF (fun Zpg hF => ?_) (fun Zpg hF => ?_)
  ·refine ns ?_
   obtain ⟨ZHl, hF⟩ := Zy hF
   refine ns ?_
   refine AWL.weak (rn []) ?_ (Zho s ((i_6 : Nat) : Int) (i_6 + 1) _ hF)
   exact (WS.mk (tc (tc (Zd (Zs (Zdd (Zc8 ZHl))) Zc))) Zb)
  ·refine nw ?_
   obtain ⟨ZDv, hF⟩ := Zy hF
   refine ns ?_
   refine AWL.weak (rn []) ?_ (Zho s Zhn (i_6 + 1) _ hF)
   exact (WS.mk (tc (tc (Zd (Zs (Zdd (Zc8 ZDv))) Zc))) Zb)
 ·refine nw ?_
  refine AWP.seq ?_
  refine AWP.seq ?_
  obtain ⟨c39, Zje, hF⟩ := bind_some hF
  refine AWP.cutN (fun T => ∃ r, WS r T ⟨[(0, .c none (.v (.string s))), (5, .c none (.v (.int .i64 Zhn))), (28, .c none (.v (.bool c39)))], []⟩) ?_ (fun T hw => ?_)
  ·refine ns ?_
   refine Zl false (fun ZqL => ?_) (fun ZqL => ?_)
   ·have Zje := ift ZqL Zje
    (conv => whnf)
    obtain rfl := Zg Zje
    refine st ?_
    exact wx (WS.mk (tc (tc (Zd (Zs (web ZqL)) Zc))) Zb)
   ·have Zje := ife ZqL Zje
    obtain ⟨z37, ZFX, ZF5, ZFB, ZGV, Zje⟩ := ZfG Zje
    obtain ⟨r38, Zy5, Zje⟩ := bind_some Zje
    (conv => whnf)
    refine s3 ZFX ZF5 ZFB ?_
    rw [← ZGV]
    refine st ?_
    refine e3 ?_
    refine st ?_
    refine cm (Zk.weak (rn []) (ZiK z37 _ Zy5) rfl (WS.mk (tc Zc) Zb)) ?_
    refine st ?_
    obtain rfl := Zg Zje
    refine st ?_
    exact wx (WS.mk (tc (tc (Zd (Zs (web ZqL)) Zc))) Zb)
  obtain ⟨r0, hw⟩ := hw
  (conv => whnf)
  refine AWP.weak r0 hw ?_
  refine nw ?_
  refine Zj hF (fun ZvZ hF => ?_) (fun ZvZ hF => ?_)
  ·refine AWP.seq ?_
   refine ns ?_
   obtain rfl := Zg hF
   refine ns ?_
   refine Exists.intro [] ?_
   refine st ?_
   exact wx (WS.mk (Zd (ZdE (Zc6 (WE.refl _) (Zc6 (WE.refl _) (Zc6 (WE.refl _) ZdF)))) Zc) Zb)
  ·refine nw ?_
   refine AWP.seq ?_
   obtain ⟨z42, ZEC, ZFi, ZFI, ZCb, hF⟩ := ZfG hF
   obtain ⟨r43, ZD2, hF⟩ := bind_some hF
   refine nn ?_
   refine s3 ZEC ZFi ZFI ?_
   rw [← ZCb]
   refine st ?_
   refine e3 ?_
   refine st ?_
   refine cm (Zk.weak (rn []) (Zme z42 _ ZD2) rfl (WS.mk (tc Zc) Zb)) ?_
   refine st ?_
   refine AWP.seq ?_
   refine AWP.seq ?_
   refine ns ?_
   refine nw ?_
   refine Zj hF (fun ZCh hF => ?_) (fun ZCh hF => ?_)
   ·refine AWP.seq ?_
    refine ns ?_
    obtain rfl := Zg hF
    refine ns ?_
    refine Exists.intro [] ?_
    refine st ?_
    exact wx (WS.mk (Zd (ZdE (Zc6 (WE.refl _) (Zc6 (WE.refl _) (Zc6 (WE.refl _) ZdF)))) Zc) Zb)
   ·refine nw ?_
    refine AWP.seq ?_
    obtain ⟨z46, ZFn, ZFK, ZFb, ZGg, hF⟩ := ZfG hF
    refine nn ?_
    refine s3 ZFn ZFK ZFb ?_
    rw [← ZGg]
    refine st ?_
    obtain rfl := Zg hF
    refine ns ?_
    refine Exists.intro [] ?_
    refine st ?_
    exact wx (WS.mk (Zd (ZdE (Zc6 (WE.refl _) (Zc6 (WE.refl _) (Zc6 (WE.refl _) ZdF)))) Zc) Zb)

def Zcv (s : ByteArray) : Option (ByteArray × Int × Bool) :=
 ZaV s (-1) 0
def Zcv.M (s : ByteArray) (r : ByteArray × Int × Bool) : Prop :=
 Zk Tryz.prog 58 [.c none (.v (.string s))] [] (fun d b => d = .tup [.c (.v (.string r.1)), .c (.v (.int .i64 r.2.1)), .c (.v (.bool r.2.2))] ∧ b = [])
theorem Zgw (s : ByteArray) (r : ByteArray × Int × Bool) (hF : Zcv s = some r) : Zcv.M s r := by
 unfold Zcv at hF
 unfold Zcv.M
 refine en Tryz.func58 ?_
 refine AWP.seq ?_
 refine ns ?_
 refine AWP.seq ?_
 refine ns ?_
 refine AWP.seq ?_
 refine AWP.seq ?_
 refine ns ?_
 refine AWP.block ?_
 refine AWP.loop ?_
 refine AWL.weak (rn []) ?_ (Zlj s (-1) 0 _ hF)
 exact (WS.mk (tc (tc (tc Zc))) Zb)

def ZcU (base : ByteArray) (n : Int) : Option (ByteArray) :=
 Zcw base >>= fun r3 =>
 if ((!r3) || (decide (n < 0))) = true then
 some (ByteArray.mk #[])
 else
 ZK (((base.size + (ByteArray.mk #[36]).size : Nat) : Int) ≤ IntKind.i64.max) >>= fun _ =>
 strconv_Itoa n >>= fun r7 =>
 ZK ((((base ++ (ByteArray.mk #[36])).size + r7.size : Nat) : Int) ≤ IntKind.i64.max) >>= fun _ =>
 some ((base ++ (ByteArray.mk #[36])) ++ r7)
def ZcU.M (base : ByteArray) (n : Int) (r : ByteArray) : Prop :=
 Zk Tryz.prog 91 [.c none (.v (.string base)), .c none (.v (.int .i64 n))] [] (fun d b => d = .c none (.v (.string r)) ∧ b = [])
theorem ZiO (base : ByteArray) (n : Int) (r : ByteArray) (hF : ZcU base n = some r) : ZcU.M base n r := by
 unfold ZcU at hF
 unfold ZcU.M
 refine en Tryz.func91 ?_
 refine AWP.seq ?_
 refine ns ?_
 refine AWP.seq ?_
 refine AWP.seq ?_
 obtain ⟨r3, hr3, hF⟩ := bind_some hF
 refine AWP.cutN (fun T => ∃ r, WS r T ⟨[(0, .c none (.v (.string base))), (1, .c none (.v (.int .i64 n))), (11, .c none (.v (.bool ((!r3) || (decide (n < 0))))))], []⟩) ?_ (fun T hw => ?_)
 ·refine ns ?_
  refine e3 ?_
  refine st ?_
  refine cm (Zk.weak (rn []) (ZiK base _ hr3) rfl (WS.mk (tc Zc) Zb)) ?_
  refine st ?_
  refine Zl false (fun hc4 => ?_) (fun hc4 => ?_)
  ·(conv => whnf)
   refine st ?_
   exact wx (WS.mk (tc (tc (Zd (Zs (web hc4)) Zc))) Zb)
  ·(conv => whnf)
   refine st ?_
   exact wx (WS.mk (tc (tc (Zd (Zs (web hc4)) Zc))) Zb)
 obtain ⟨r0, hw⟩ := hw
 (conv => whnf)
 refine AWP.weak r0 hw ?_
 refine nw ?_
 refine Zj hF (fun hc5 hF => ?_) (fun hc5 hF => ?_)
 ·refine AWP.seq ?_
  refine ns ?_
  obtain rfl := Zg hF
  refine ns ?_
  refine Exists.intro [] ?_
  refine st ?_
  exact wx (WS.mk (tc Zc) Zb)
 ·refine nw ?_
  refine AWP.seq ?_
  obtain ⟨hg6, hF⟩ := Zy hF
  obtain ⟨r7, hr7, hF⟩ := bind_some hF
  obtain ⟨hg8, hF⟩ := Zy hF
  refine ns ?_
  refine And.intro hg6 ?_
  refine st ?_
  refine e3 ?_
  refine st ?_
  refine cm (Zk.weak (rn []) (Zk8 n _ hr7) rfl (WS.mk (tc Zc) Zb)) ?_
  refine st ?_
  refine And.intro hg8 ?_
  refine st ?_
  obtain rfl := Zg hF
  refine ns ?_
  refine Exists.intro [] ?_
  refine st ?_
  exact wx (WS.mk (tc Zc) Zb)

mutual
def ZbU (t : Za) : Option (Int) :=
 ZcO 0 t 0 t.fKids
 partial_fixpoint
def ZcO (n_3 : Int) (t : Za) (x_9 : Nat) (Zb0 : (List Za)) : Option (Int) :=
 (match Zb0 with
 | x11 :: Zkm =>
 ZbU x11 >>= fun r14 =>
 ZcO (if r14 > n_3 then r14 else n_3) t (x_9 + 1) Zkm
 | [] =>
 some (IntKind.i64.wrap (n_3 + 1)))
 partial_fixpoint
end
def ZbU.M (t : Za) (r : Int) : Prop :=
 Zk Tryz.prog 77 [.agg [.v (.int .i64 t.fOp), .v (.string t.fName), .sl (t.fBound.fArgs.map Zi.cells), .sl (t.fKids.map Za.cells)]] [] (fun d b => d = .c none (.v (.int .i64 r)) ∧ b = [])
def ZcO.M (n_3 : Int) (t : Za) (x_9 : Nat) (Zb0 : (List Za)) (r : Int) : Prop :=
 ∀ ZcY : List Za, t.fKids = ZcY ++ Zb0 → x_9 = ZcY.length → t.fKids.length ≤ maxLen → AWL Tryz.prog 20 (Code.sub (Zq Tryz.f77) [1, 1, 0, 1, 0, 0]) (Code.cont Tryz.prog 20 (Zq Tryz.f77) [1, 1, 0, 1, 0] (ZbS tab Tryz.f77.results (ZbX (.c none (.v (.int .i64 r))) []))) ⟨[(3, .c none (.v (.int .i64 n_3))), (7, .c none (.sl (t.fKids.map Za.cells))), (8, .c none (.v (.int .i64 ((t.fKids.length : Nat) : Int)))), (9, .c none (.v (.int .i64 ((x_9 : Nat) : Int))))], []⟩
theorem ZpA : (∀ (t : Za), ∀ r, ZbU t = some r → ZbU.M t r) ∧ (∀ (n_3 : Int) (t : Za) (x_9 : Nat) (Zb0 : (List Za)), ∀ r, ZcO n_3 t x_9 Zb0 = some r → ZcO.M n_3 t x_9 Zb0 r) := by
 refine ZbU.mutual_partial_correctness ZbU.M ZcO.M ?_ ?_
 ·intro types_Depth_l1' ZgY t r hF
  unfold ZbU.M
  refine en Tryz.func77 ?_
  refine AWP.seq ?_
  refine ns ?_
  refine AWP.seq ?_
  refine ns ?_
  refine AWP.seq ?_
  refine AWP.seq ?_
  refine ns ?_
  intro hlen1
  (try rw [List.length_map] at hlen1)
  (try rw [List.length_map])
  refine st ?_
  refine AWP.block ?_
  refine AWP.loop ?_
  refine AWL.weak (rn []) ?_ (ZgY 0 t 0 t.fKids _ hF ([]) rfl rfl hlen1)
  exact (WS.mk (tc (tc (tc (tc Zc)))) Zb)
 ·intro types_Depth' types_Depth_l1' Zqf ZgY n_3 t x_9 Zb0 r hF
  unfold ZcO.M
  intro ZcY ZgZ Zhf hlen1
  refine AWL.step ?_
  refine AWP.seq ?_
  refine ns ?_
  refine AWP.seq ?_
  refine nw ?_
  refine ZS ZgZ Zhf (fun x11 Zkm ZkY Zre ZtD => ?_) (fun ZkY => ?_)
  ·subst ZkY
   refine nw ?_
   refine AWP.seq ?_
   refine AWP.block ?_
   refine AWP.seq ?_
   refine nn ?_
   refine sr (Zau (f := Za.cells) (Za.cells_eq x11) Zre) ?_
   refine st ?_
   obtain ⟨r14, Zq7, hF⟩ := bind_some hF
   refine ns ?_
   refine e3 ?_
   refine st ?_
   refine cm (Zk.weak (rn []) (Zqf x11 _ Zq7) rfl (WS.mk (Zd (Zt (lc (lc (lc (lc Zo))))) Zc) Zb)) ?_
   refine st ?_
   refine ns ?_
   refine AWL.weak (rn []) ?_ (ZgY (if r14 > n_3 then r14 else n_3) t (x_9 + 1) Zkm _ hF (ZcY ++ [x11]) (by rw [ZgZ]; simp) (by rw [Zhf]; simp) hlen1)
   exact (WS.mk (tc (tc (tc (Zd (Zs (Zdd (ZZ hlen1 ZtD))) Zc)))) Zb)
  ·subst ZkY
   refine nw ?_
   refine AWP.seq ?_
   refine ns ?_
   obtain rfl := Zg hF
   refine ns ?_
   refine Exists.intro [] ?_
   refine st ?_
   exact wx (WS.mk (tc Zc) Zb)
theorem ZlR : ∀ (t : Za), ∀ r, ZbU t = some r → ZbU.M t r := ZpA.1

mutual
def Zcg (t : Za) : Option (Int) :=
 Zc1 1 t 0 t.fKids
 partial_fixpoint
def Zc1 (n_3 : Int) (t : Za) (x_9 : Nat) (Zb0 : (List Za)) : Option (Int) :=
 (match Zb0 with
 | x11 :: Zkm =>
 Zcg x11 >>= fun r14 =>
 Zc1 (IntKind.i64.wrap (n_3 + r14)) t (x_9 + 1) Zkm
 | [] =>
 some n_3)
 partial_fixpoint
end
def Zcg.M (t : Za) (r : Int) : Prop :=
 Zk Tryz.prog 74 [.agg [.v (.int .i64 t.fOp), .v (.string t.fName), .sl (t.fBound.fArgs.map Zi.cells), .sl (t.fKids.map Za.cells)]] [] (fun d b => d = .c none (.v (.int .i64 r)) ∧ b = [])
def Zc1.M (n_3 : Int) (t : Za) (x_9 : Nat) (Zb0 : (List Za)) (r : Int) : Prop :=
 ∀ ZcY : List Za, t.fKids = ZcY ++ Zb0 → x_9 = ZcY.length → t.fKids.length ≤ maxLen → AWL Tryz.prog 19 (Code.sub (Zq Tryz.f74) [1, 1, 0, 1, 0, 0]) (Code.cont Tryz.prog 19 (Zq Tryz.f74) [1, 1, 0, 1, 0] (ZbS tab Tryz.f74.results (ZbX (.c none (.v (.int .i64 r))) []))) ⟨[(3, .c none (.v (.int .i64 n_3))), (7, .c none (.sl (t.fKids.map Za.cells))), (8, .c none (.v (.int .i64 ((t.fKids.length : Nat) : Int)))), (9, .c none (.v (.int .i64 ((x_9 : Nat) : Int))))], []⟩
theorem Zrd : (∀ (t : Za), ∀ r, Zcg t = some r → Zcg.M t r) ∧ (∀ (n_3 : Int) (t : Za) (x_9 : Nat) (Zb0 : (List Za)), ∀ r, Zc1 n_3 t x_9 Zb0 = some r → Zc1.M n_3 t x_9 Zb0 r) := by
 refine Zcg.mutual_partial_correctness Zcg.M Zc1.M ?_ ?_
 ·intro types_Size_l1' ZhJ t r hF
  unfold Zcg.M
  refine en Tryz.func74 ?_
  refine AWP.seq ?_
  refine ns ?_
  refine AWP.seq ?_
  refine ns ?_
  refine AWP.seq ?_
  refine AWP.seq ?_
  refine ns ?_
  intro hlen1
  (try rw [List.length_map] at hlen1)
  (try rw [List.length_map])
  refine st ?_
  refine AWP.block ?_
  refine AWP.loop ?_
  refine AWL.weak (rn []) ?_ (ZhJ 1 t 0 t.fKids _ hF ([]) rfl rfl hlen1)
  exact (WS.mk (tc (tc (tc (tc Zc)))) Zb)
 ·intro types_Size' types_Size_l1' ZrN ZhJ n_3 t x_9 Zb0 r hF
  unfold Zc1.M
  intro ZcY ZgZ Zhf hlen1
  refine AWL.step ?_
  refine AWP.seq ?_
  refine ns ?_
  refine AWP.seq ?_
  refine nw ?_
  refine ZS ZgZ Zhf (fun x11 Zkm ZkY Zre ZtD => ?_) (fun ZkY => ?_)
  ·subst ZkY
   refine nw ?_
   refine AWP.seq ?_
   refine AWP.block ?_
   refine AWP.seq ?_
   refine nn ?_
   refine sr (Zau (f := Za.cells) (Za.cells_eq x11) Zre) ?_
   refine st ?_
   obtain ⟨r14, Zq7, hF⟩ := bind_some hF
   refine ns ?_
   refine e3 ?_
   refine st ?_
   refine cm (Zk.weak (rn []) (ZrN x11 _ Zq7) rfl (WS.mk (Zd (Zt (lc (lc (lc (lc Zo))))) Zc) Zb)) ?_
   refine st ?_
   refine ns ?_
   refine AWL.weak (rn []) ?_ (ZhJ (IntKind.i64.wrap (n_3 + r14)) t (x_9 + 1) Zkm _ hF (ZcY ++ [x11]) (by rw [ZgZ]; simp) (by rw [Zhf]; simp) hlen1)
   exact (WS.mk (tc (tc (tc (Zd (Zs (Zdd (ZZ hlen1 ZtD))) Zc)))) Zb)
  ·subst ZkY
   refine nw ?_
   refine AWP.seq ?_
   refine ns ?_
   obtain rfl := Zg hF
   refine ns ?_
   refine Exists.intro [] ?_
   refine st ?_
   exact wx (WS.mk (tc Zc) Zb)
theorem Zm3 : ∀ (t : Za), ∀ r, Zcg t = some r → Zcg.M t r := Zrd.1

def ZbP (z18 : ByteArray) (Zfz : Nat) : Option (Bool) :=
 if (decide (Zfz < z18.size)) = true then
 if ((((Utf8.decode z18 Zfz).1 : Nat) : Int) != 44) = true then
 some false
 else
 ZbP z18 (Zfz + (Utf8.decode z18 Zfz).2)
 else
 some true
 partial_fixpoint
def ZbP.M (z18 : ByteArray) (Zfz : Nat) (r : Bool) : Prop :=
 AWL Tryz.prog 46 (Code.sub (Zq Tryz.f102) [1, 1, 1, 1, 0, 1, 0, 0]) (Code.cont Tryz.prog 46 (Zq Tryz.f102) [1, 1, 1, 1, 0, 1, 0] (ZbS tab Tryz.f102.results (ZbX (.c none (.v (.bool r))) []))) ⟨[(40, .ptr 40 0)], [(40, [(none, Zsi z18 ((Zfz : Nat) : Int))])]⟩
theorem ZmD (z18 : ByteArray) (Zfz : Nat) : ∀ r, ZbP z18 Zfz = some r → ZbP.M z18 Zfz r := by
 refine ZbP.partial_correctness z18 (fun Zfz r => ZbP.M z18 Zfz r) ?_ Zfz
 intro types_builtin_l1' Zh1 Zfz r hF
 have ZmM := fun (_z18 : ByteArray) (Zfz : Nat) => Zh1 Zfz
 clear Zh1
 unfold ZbP.M
 refine AWL.step ?_
 refine AWP.seq ?_
 refine nn ?_
 (repeat ((conv => whnf); (with_reducible refine And.intro ?_ ?_); (focus (first | (with_reducible exact Zzz) | exact Eq.refl _ | exact Nat.le_of_ble_eq_true (Eq.refl true) | decide)))); (conv => whnf)
 refine Zj hF (fun Zv3 hF => ?_) (fun Zv3 hF => ?_)
 ·refine st ?_
  refine AWP.seq ?_
  refine nw ?_
  refine nw ?_
  refine AWP.block ?_
  refine AWP.seq ?_
  refine ns ?_
  refine AWP.seq ?_
  refine ns ?_
  refine nw ?_
  refine Zj hF (fun ZtF hF => ?_) (fun ZtF hF => ?_)
  ·refine AWP.seq ?_
   refine ns ?_
   obtain rfl := Zg hF
   refine ns ?_
   refine Exists.intro [] ?_
   refine st ?_
   exact wx (WS.mk (tc Zc) Zb)
  ·refine nw ?_
   refine AWL.weak (rn []) ?_ (ZmM z18 (Zfz + (Utf8.decode z18 Zfz).2) _ hF)
   exact (WS.mk (tp Zc) (Zf rfl (cc Zh) Zb))
 ·refine st ?_
  refine AWP.seq ?_
  refine nw ?_
  refine nw ?_
  refine AWP.seq ?_
  refine ns ?_
  obtain rfl := Zg hF
  refine ns ?_
  refine Exists.intro [] ?_
  refine st ?_
  exact wx (WS.mk (tc Zc) Zb)

def ZdX (s : ByteArray) : Option (Bool) :=
 if (((s.toList == (ByteArray.mk #[45, 62]).toList) || (s.toList == (ByteArray.mk #[91, 93]).toList)) || (s.toList == (ByteArray.mk #[40, 41]).toList)) = true then
 some true
 else
 (if ((decide (((s.size : Nat) : Int) < 3)) || (decide (((s.size : Nat) : Int) > 8))) = true then some true else (btI s 0) >>= fun y10 =>
 some (((y10.toNat : Nat) : Int) != 40)) >>= fun c11 =>
 (if c11 = true then some true else (btI s (IntKind.i64.wrap (((s.size : Nat) : Int) - 1))) >>= fun y12 =>
 some (((y12.toNat : Nat) : Int) != 41)) >>= fun c13 =>
 if c13 = true then
 some false
 else
 (slS s 1 (IntKind.i64.wrap (((s.size : Nat) : Int) - 1))) >>= fun z18 =>
 ZbP z18 0
def ZdX.M (s : ByteArray) (r : Bool) : Prop :=
 Zk Tryz.prog 102 [.c none (.v (.string s))] [] (fun d b => d = .c none (.v (.bool r)) ∧ b = [])
theorem ZoI (s : ByteArray) (r : Bool) (hF : ZdX s = some r) : ZdX.M s r := by
 unfold ZdX at hF
 unfold ZdX.M
 refine en Tryz.func102 ?_
 refine AWP.seq ?_
 refine ns ?_
 refine AWP.seq ?_
 refine AWP.seq ?_
 refine AWP.cutN (fun T => ∃ r, WS r T ⟨[(0, .c none (.v (.string s))), (15, .c none (.v (.bool (((s.toList == (ByteArray.mk #[45, 62]).toList) || (s.toList == (ByteArray.mk #[91, 93]).toList)) || (s.toList == (ByteArray.mk #[40, 41]).toList)))))], []⟩) ?_ (fun T hw => ?_)
 ·refine ns ?_
  refine Zl false (fun hc2 => ?_) (fun hc2 => ?_)
  ·(conv => whnf)
   refine st ?_
   exact wx (WS.mk (tc (Zd (Zs (web hc2)) Zc)) Zb)
  ·(conv => whnf)
   refine st ?_
   refine Zl false (fun hc3 => ?_) (fun hc3 => ?_)
   ·(conv => whnf)
    refine st ?_
    exact wx (WS.mk (tc (Zd (Zs (web (And.intro hc2 hc3))) Zc)) Zb)
   ·(conv => whnf)
    refine st ?_
    exact wx (WS.mk (tc (Zd (Zs (web (And.intro hc2 hc3))) Zc)) Zb)
 obtain ⟨r0, hw⟩ := hw
 (conv => whnf)
 refine AWP.weak r0 hw ?_
 refine nw ?_
 refine Zj hF (fun hc4 hF => ?_) (fun hc4 hF => ?_)
 ·refine AWP.seq ?_
  refine ns ?_
  obtain rfl := Zg hF
  refine ns ?_
  refine Exists.intro [] ?_
  refine st ?_
  exact wx (WS.mk (tc Zc) Zb)
 ·refine nw ?_
  refine AWP.seq ?_
  refine ns ?_
  refine AWP.seq ?_
  refine AWP.seq ?_
  obtain ⟨c11, Zct, hF⟩ := bind_some hF
  obtain ⟨c13, Zcx, hF⟩ := bind_some hF
  refine AWP.cutN (fun T => ∃ r, WS r T ⟨[(0, .c none (.v (.string s))), (3, .c none (.v (.int .i64 ((s.size : Nat) : Int)))), (35, .c none (.v (.bool c13)))], []⟩) ?_ (fun T hw => ?_)
  ·refine ns ?_
   refine Zl false (fun Zc5 => ?_) (fun Zc5 => ?_)
   ·(conv => whnf)
    have Zct := ift Zc5 Zct
    obtain rfl := Zg Zct
    have Zcx := ift Zc5 Zcx
    obtain rfl := Zg Zcx
    refine st ?_
    exact wx (WS.mk (tc (tc (Zd (Zs (web Zc5)) Zc))) Zb)
   ·(conv => whnf)
    refine st ?_
    refine Zl false (fun Zf2 => ?_) (fun Zf2 => ?_)
    ·have Zct := ift (And.intro Zc5 Zf2) Zct
     (conv => whnf)
     obtain rfl := Zg Zct
     have Zcx := ift (And.intro Zc5 Zf2) Zcx
     obtain rfl := Zg Zcx
     refine st ?_
     exact wx (WS.mk (tc (tc (Zd (Zs (web (And.intro Zc5 Zf2))) Zc))) Zb)
    ·have Zct := ife (And.intro Zc5 Zf2) Zct
     obtain ⟨y10, ZFe, ZB5, Zct⟩ := ZcB Zct
     (conv => whnf)
     refine sr ZB5 ?_
     obtain rfl := Zg Zct
     refine st ?_
     refine Zl false (fun ZeI => ?_) (fun ZeI => ?_)
     ·have Zcx := ift (And.intro Zc5 (And.intro Zf2 ZeI)) Zcx
      (conv => whnf)
      obtain rfl := Zg Zcx
      refine st ?_
      exact wx (WS.mk (tc (tc (Zd (Zs (web (And.intro Zc5 (And.intro Zf2 ZeI)))) Zc))) Zb)
     ·have Zcx := ife (And.intro Zc5 (And.intro Zf2 ZeI)) Zcx
      obtain ⟨y12, ZEt, ZB3, Zcx⟩ := ZcB Zcx
      (conv => whnf)
      refine sr ZB3 ?_
      obtain rfl := Zg Zcx
      refine st ?_
      exact wx (WS.mk (tc (tc (Zd (Zs (web (And.intro Zc5 (And.intro Zf2 ZeI)))) Zc))) Zb)
  obtain ⟨r0, hw⟩ := hw
  (conv => whnf)
  refine AWP.weak r0 hw ?_
  refine nw ?_
  refine Zj hF (fun Zfl hF => ?_) (fun Zfl hF => ?_)
  ·refine AWP.seq ?_
   refine ns ?_
   obtain rfl := Zg hF
   refine ns ?_
   refine Exists.intro [] ?_
   refine st ?_
   exact wx (WS.mk (tc Zc) Zb)
  ·refine nw ?_
   refine AWP.seq ?_
   refine AWP.seq ?_
   obtain ⟨z18, ZFS, ZFM, ZFV, ZGK, hF⟩ := ZfG hF
   refine nn ?_
   refine s3 ZFS ZFM ZFV ?_
   rw [← ZGK]
   (repeat ((conv => whnf); (with_reducible refine And.intro ?_ ?_); (focus (first | (with_reducible exact Zzz) | exact Eq.refl _ | exact Nat.le_of_ble_eq_true (Eq.refl true) | decide)))); (conv => whnf)
   refine st ?_
   refine AWP.block ?_
   refine AWP.loop ?_
   refine AWL.weak (rn []) ?_ (ZmD z18 0 _ hF)
   exact (WS.mk (tp Zc) (Zf rfl (cc Zh) Zb))

def ZcE (s_0 : ByteArray) : Option (Bool) :=
 ZcS s_0 >>= fun r5 =>
 some ((r5 == 2) || (r5 == 4))
def ZcE.M (s_0 : ByteArray) (r : Bool) : Prop :=
 AWP Tryz.prog 34 (Code.sub (Zq Tryz.f103) [1, 1, 1]) (Code.cont Tryz.prog 34 (Zq Tryz.f103) [1, 1, 1] (ZbS tab Tryz.f103.results (ZbX (.c none (.v (.bool r))) []))) ⟨[(0, .c none (.v (.string s_0)))], []⟩
theorem Zie (s_0 : ByteArray) (r : Bool) (hF : ZcE s_0 = some r) : ZcE.M s_0 r := by
 unfold ZcE at hF
 unfold ZcE.M
 refine AWP.seq ?_
 obtain ⟨r5, hr5, hF⟩ := bind_some hF
 refine ns ?_
 refine e3 ?_
 refine st ?_
 refine cm (Zk.weak (rn []) (ZgU s_0 _ hr5) rfl (WS.mk (tc Zc) Zb)) ?_
 refine st ?_
 refine AWP.seq ?_
 refine AWP.cutN (fun T => ∃ r, WS r T ⟨[(2, .c none (.v (.bool ((r5 == 2) || (r5 == 4)))))], []⟩) ?_ (fun T hw => ?_)
 ·refine ns ?_
  refine Zl false (fun hc6 => ?_) (fun hc6 => ?_)
  ·(conv => whnf)
   refine st ?_
   exact wx (WS.mk (Zd (Zs (web hc6)) Zc) Zb)
  ·(conv => whnf)
   refine st ?_
   exact wx (WS.mk (Zd (Zs (web hc6)) Zc) Zb)
 obtain ⟨r0, hw⟩ := hw
 (conv => whnf)
 refine AWP.weak r0 hw ?_
 obtain rfl := Zg hF
 refine ns ?_
 refine Exists.intro [] ?_
 refine st ?_
 exact wx (WS.mk (tc Zc) Zb)

def ZcF (s_0 : ByteArray) : Option (Bool) :=
 Zer s_0 >>= fun r7 =>
 if r7.2.2 = true then
 ZcE r7.2.1
 else
 ZcE s_0
def ZcF.M (s_0 : ByteArray) (r : Bool) : Prop :=
 AWP Tryz.prog 34 (Code.sub (Zq Tryz.f103) [1, 1]) (Code.cont Tryz.prog 34 (Zq Tryz.f103) [1, 1] (ZbS tab Tryz.f103.results (ZbX (.c none (.v (.bool r))) []))) ⟨[(0, .c none (.v (.string s_0)))], []⟩
theorem Zic (s_0 : ByteArray) (r : Bool) (hF : ZcF s_0 = some r) : ZcF.M s_0 r := by
 unfold ZcF at hF
 unfold ZcF.M
 refine AWP.seq ?_
 refine AWP.seq ?_
 obtain ⟨r7, hr7, hF⟩ := bind_some hF
 refine ns ?_
 refine e3 ?_
 refine st ?_
 refine cm (Zk.weak (rn []) (ZlE s_0 _ hr7) rfl (WS.mk (tc Zc) Zb)) ?_
 refine st ?_
 refine AWP.seq ?_
 refine ns ?_
 refine nw ?_
 refine Zj hF (fun hc8 hF => ?_) (fun hc8 hF => ?_)
 ·refine ns ?_
  refine AWP.weak (rn []) ?_ (Zie r7.2.1 _ hF)
  exact (WS.mk (tc Zc) Zb)
 ·refine nw ?_
  refine AWP.weak (rn []) ?_ (Zie s_0 _ hF)
  exact (WS.mk (tc Zc) Zb)

def ZdY (s : ByteArray) : Option (Bool) :=
 Zeu s >>= fun r9 =>
 if r9.2.2 = true then
 ZcF r9.1
 else
 ZcF s
def ZdY.M (s : ByteArray) (r : Bool) : Prop :=
 Zk Tryz.prog 103 [.c none (.v (.string s))] [] (fun d b => d = .c none (.v (.bool r)) ∧ b = [])
theorem Zpb (s : ByteArray) (r : Bool) (hF : ZdY s = some r) : ZdY.M s r := by
 unfold ZdY at hF
 unfold ZdY.M
 refine en Tryz.func103 ?_
 refine AWP.seq ?_
 refine ns ?_
 refine AWP.seq ?_
 refine AWP.seq ?_
 obtain ⟨r9, hr9, hF⟩ := bind_some hF
 refine ns ?_
 refine e3 ?_
 refine st ?_
 refine cm (Zk.weak (rn []) (ZjA s _ hr9) rfl (WS.mk (tc Zc) Zb)) ?_
 refine st ?_
 refine AWP.seq ?_
 refine ns ?_
 refine nw ?_
 refine Zj hF (fun ZeC hF => ?_) (fun ZeC hF => ?_)
 ·refine ns ?_
  refine AWP.weak (rn []) ?_ (Zic r9.1 _ hF)
  exact (WS.mk (tc Zc) Zb)
 ·refine nw ?_
  refine AWP.weak (rn []) ?_ (Zic s _ hF)
  exact (WS.mk (tc Zc) Zb)

def ZaW (s : ByteArray) : Option (Bool) :=
 Zeu s >>= fun r4 =>
 if r4.2.2 = true then
 ZcS r4.1 >>= fun r6 =>
 some (r6 == 1)
 else
 ZcS s >>= fun r7 =>
 some ((r7 == 1) && (!(s.toList == (ByteArray.mk #[102, 111, 114, 97, 108, 108]).toList)))
def ZaW.M (s : ByteArray) (r : Bool) : Prop :=
 Zk Tryz.prog 68 [.c none (.v (.string s))] [] (fun d b => d = .c none (.v (.bool r)) ∧ b = [])
theorem Ze7 (s : ByteArray) (r : Bool) (hF : ZaW s = some r) : ZaW.M s r := by
 unfold ZaW at hF
 unfold ZaW.M
 refine en Tryz.func68 ?_
 refine AWP.seq ?_
 refine ns ?_
 refine AWP.seq ?_
 refine AWP.seq ?_
 obtain ⟨r4, hr4, hF⟩ := bind_some hF
 refine ns ?_
 refine e3 ?_
 refine st ?_
 refine cm (Zk.weak (rn []) (ZjA s _ hr4) rfl (WS.mk (tc Zc) Zb)) ?_
 refine st ?_
 refine AWP.seq ?_
 refine ns ?_
 refine nw ?_
 refine Zj hF (fun hc5 hF => ?_) (fun hc5 hF => ?_)
 ·refine AWP.seq ?_
  obtain ⟨r6, hr6, hF⟩ := bind_some hF
  refine ns ?_
  refine e3 ?_
  refine st ?_
  refine cm (Zk.weak (rn []) (ZgU r4.1 _ hr6) rfl (WS.mk (tc Zc) Zb)) ?_
  refine st ?_
  obtain rfl := Zg hF
  refine ns ?_
  refine Exists.intro [] ?_
  refine st ?_
  exact wx (WS.mk (tc Zc) Zb)
 ·refine nw ?_
  refine AWP.seq ?_
  obtain ⟨r7, hr7, hF⟩ := bind_some hF
  refine AWP.cutN (fun T => ∃ r, WS r T ⟨[(2, .c none (.v (.bool ((r7 == 1) && (!(s.toList == (ByteArray.mk #[102, 111, 114, 97, 108, 108]).toList))))))], []⟩) ?_ (fun T hw => ?_)
  ·refine ns ?_
   refine e3 ?_
   refine st ?_
   refine cm (Zk.weak (rn []) (ZgU s _ hr7) rfl (WS.mk (tc Zc) Zb)) ?_
   refine st ?_
   refine Zl true (fun hc8 => ?_) (fun hc8 => ?_)
   ·(conv => whnf)
    refine st ?_
    exact wx (WS.mk (Zd (Zs (web hc8)) Zc) Zb)
   ·(conv => whnf)
    refine st ?_
    exact wx (WS.mk (Zd (Zs (web hc8)) Zc) Zb)
  obtain ⟨r0, hw⟩ := hw
  (conv => whnf)
  refine AWP.weak r0 hw ?_
  obtain rfl := Zg hF
  refine ns ?_
  refine Exists.intro [] ?_
  refine st ?_
  exact wx (WS.mk (tc Zc) Zb)

def Zdf (t : Za) (ZmU : Bool) : Option (Bool) :=
 if ZmU = true then
 ZaW t.fName >>= fun r21 =>
 some r21
 else
 if (t.fOp == 2) = true then
 ZdX t.fName >>= fun r23 =>
 (if r23 = true then some true else ZdY t.fName >>= fun r24 =>
 some r24) >>= fun c25 =>
 some c25
 else
 some (t.fOp == 3)
def Zdf.M (t : Za) (ZmU : Bool) (r : Bool) : Prop :=
 AWP Tryz.prog 60 (Code.sub (Zq Tryz.f73) [1, 1, 1, 1, 0, 1, 0, 1]) (Code.cont Tryz.prog 60 (Zq Tryz.f73) [1, 1, 1, 1, 0, 1, 0, 1] (ZbS tab Tryz.f73.results (ZbX (.c none (.v (.bool r))) []))) ⟨[(1, .ptr 1 0), (40, .c none (.v (.int .i64 t.fOp))), (41, .c none (.v (.bool ZmU)))], [(1, [(none, .v (.int .i64 t.fOp)), (none, .v (.string t.fName)), (none, .sl (t.fBound.fArgs.map Zi.cells)), (none, .sl (t.fKids.map Za.cells))])]⟩
theorem ZiU (t : Za) (ZmU : Bool) (r : Bool) (hF : Zdf t ZmU = some r) : Zdf.M t ZmU r := by
 unfold Zdf at hF
 unfold Zdf.M
 refine nw ?_
 refine Zj hF (fun ZuN hF => ?_) (fun ZuN hF => ?_)
 ·refine AWP.seq ?_
  obtain ⟨r21, ZEd, hF⟩ := bind_some hF
  refine ns ?_
  refine e3 ?_
  refine st ?_
  refine cm (Zk.weak (rn []) (Ze7 t.fName _ ZEd) rfl (WS.mk (tc Zc) Zb)) ?_
  refine st ?_
  obtain rfl := Zg hF
  refine ns ?_
  refine Exists.intro [] ?_
  refine st ?_
  exact wx (WS.mk (tc Zc) Zb)
 ·refine AWP.seq ?_
  refine ns ?_
  refine nw ?_
  refine Zj hF (fun ZtF hF => ?_) (fun ZtF hF => ?_)
  ·refine AWP.seq ?_
   obtain ⟨r23, Zy9, hF⟩ := bind_some hF
   obtain ⟨c25, Zi5, hF⟩ := bind_some hF
   refine AWP.cutN (fun T => ∃ r, WS r T ⟨[(2, .c none (.v (.bool c25)))], []⟩) ?_ (fun T hw => ?_)
   ·refine ns ?_
    refine e3 ?_
    refine st ?_
    refine cm (Zk.weak (rn []) (ZoI t.fName _ Zy9) rfl (WS.mk (tc Zc) Zb)) ?_
    refine st ?_
    refine Zl false (fun Zk3 => ?_) (fun Zk3 => ?_)
    ·have Zi5 := ift Zk3 Zi5
     (conv => whnf)
     obtain rfl := Zg Zi5
     refine st ?_
     exact wx (WS.mk (Zd (Zs (web Zk3)) Zc) Zb)
    ·have Zi5 := ife Zk3 Zi5
     obtain ⟨r24, ZDr, Zi5⟩ := bind_some Zi5
     (conv => whnf)
     refine st ?_
     refine e3 ?_
     refine st ?_
     refine cm (Zk.weak (rn []) (Zpb t.fName _ ZDr) rfl (WS.mk (tc Zc) Zb)) ?_
     refine st ?_
     obtain rfl := Zg Zi5
     refine st ?_
     exact wx (WS.mk (Zd (Zs (web Zk3)) Zc) Zb)
   obtain ⟨r0, hw⟩ := hw
   (conv => whnf)
   refine AWP.weak r0 hw ?_
   obtain rfl := Zg hF
   refine ns ?_
   refine Exists.intro [] ?_
   refine st ?_
   exact wx (WS.mk (tc Zc) Zb)
  ·refine nw ?_
   refine AWP.seq ?_
   refine ns ?_
   obtain rfl := Zg hF
   refine ns ?_
   refine Exists.intro [] ?_
   refine st ?_
   exact wx (WS.mk (tc Zc) Zb)

mutual
def ZbF (t : Za) : Option (Bool) :=
 if (((t.fOp != 4) && (decide (((t.fBound.fArgs.length : Nat) : Int) > 0))) || ((t.fOp == 3) && (!(t.fName.toList == (ByteArray.mk #[]).toList)))) = true then
 some false
 else
 Zeh (Zhl (Zhl ([] : List (Int × Int)) 3 2) 4 1) 0 t.fOp >>= fun r9 =>
 (if (((t.fKids.length : Nat) : Int) != r9.1) = true then some true else ZU t.fKids >>= fun r15 =>
 some r15) >>= fun c16 =>
 if c16 = true then
 some false
 else
 if (t.fOp == 1) = true then
 Zdf t (t.fOp == 1)
 else
 Zdf t (t.fOp == 4)
 partial_fixpoint
def ZU (s : (List Za)) : Option (Bool) :=
 Zad s >>= fun r1 =>
 some (decide (r1 ≥ 0))
 partial_fixpoint
def Zad (s : (List Za)) : Option (Int) :=
 ZI s 0 s
 partial_fixpoint
def ZI (s : (List Za)) (x_8 : Nat) (ZbO : (List Za)) : Option (Int) :=
 (match ZbO with
 | x13 :: Zu3 =>
 Zdv x13 >>= fun r16 =>
 if r16 = true then
 some ((x_8 : Nat) : Int)
 else
 ZI s (x_8 + 1) Zu3
 | [] =>
 some (-1))
 partial_fixpoint
def Zdv (k : Za) : Option (Bool) :=
 ZbF k >>= fun r1 =>
 some (!r1)
 partial_fixpoint
end
def ZbF.M (t : Za) (r : Bool) : Prop :=
 Zk Tryz.prog 73 [.agg [.v (.int .i64 t.fOp), .v (.string t.fName), .sl (t.fBound.fArgs.map Zi.cells), .sl (t.fKids.map Za.cells)]] [] (fun d b => d = .c none (.v (.bool r)) ∧ b = [])
def ZU.M (s : (List Za)) (r : Bool) : Prop :=
 Zk Tryz.prog 79 [.c none (.sl (s.map Za.cells)), .c none (.v (.func (.func 101) #[] #[]))] [] (fun d b => d = .c none (.v (.bool r)) ∧ b = [])
def Zad.M (s : (List Za)) (r : Int) : Prop :=
 Zk Tryz.prog 104 [.c none (.sl (s.map Za.cells)), .c none (.v (.func (.func 101) #[] #[]))] [] (fun d b => d = .c none (.v (.int .i64 r)) ∧ b = [])
def ZI.M (s : (List Za)) (x_8 : Nat) (ZbO : (List Za)) (r : Int) : Prop :=
 ∀ ZdO : List Za, s = ZdO ++ ZbO → x_8 = ZdO.length → s.length ≤ maxLen → AWL Tryz.prog 19 (Code.sub (Zq Tryz.f104) [1, 0, 1, 0, 0]) (Code.cont Tryz.prog 19 (Zq Tryz.f104) [1, 0, 1, 0] (ZbS tab Tryz.f104.results (ZbX (.c none (.v (.int .i64 r))) []))) ⟨[(0, .c none (.sl (s.map Za.cells))), (1, .c none (.v (.func (.func 101) #[] #[]))), (7, .c none (.v (.int .i64 ((s.length : Nat) : Int)))), (8, .c none (.v (.int .i64 ((x_8 : Nat) : Int))))], []⟩
def Zdv.M (k : Za) (r : Bool) : Prop :=
 Zk Tryz.prog 101 [.agg [.v (.int .i64 k.fOp), .v (.string k.fName), .sl (k.fBound.fArgs.map Zi.cells), .sl (k.fKids.map Za.cells)]] [] (fun d b => d = .c none (.v (.bool r)) ∧ b = [])
theorem ZoF : (∀ (t : Za), ∀ r, ZbF t = some r → ZbF.M t r) ∧ (∀ (s : (List Za)), ∀ r, ZU s = some r → ZU.M s r) ∧ (∀ (s : (List Za)), ∀ r, Zad s = some r → Zad.M s r) ∧ (∀ (s : (List Za)) (x_8 : Nat) (ZbO : (List Za)), ∀ r, ZI s x_8 ZbO = some r → ZI.M s x_8 ZbO r) ∧ (∀ (k : Za), ∀ r, Zdv k = some r → Zdv.M k r) := by
 refine ZbF.mutual_partial_correctness ZbF.M ZU.M Zad.M ZI.M Zdv.M ?_ ?_ ?_ ?_ ?_
 ·intro slices_ContainsFunc_Type_types_formed_1' ZeV t r hF
  unfold ZbF.M
  refine en Tryz.func73 ?_
  refine AWP.seq ?_
  refine ns ?_
  refine AWP.seq ?_
  refine AWP.seq ?_
  refine AWP.cutN (fun T => ∃ r, WS r T ⟨[(1, .ptr 1 0), (23, .c none (.v (.bool (((t.fOp != 4) && (decide (((t.fBound.fArgs.length : Nat) : Int) > 0))) || ((t.fOp == 3) && (!(t.fName.toList == (ByteArray.mk #[]).toList)))))))], [(1, [(none, .v (.int .i64 t.fOp)), (none, .v (.string t.fName)), (none, .sl (t.fBound.fArgs.map Zi.cells)), (none, .sl (t.fKids.map Za.cells))])]⟩) ?_ (fun T hw => ?_)
  ·refine ns ?_
   refine Zl true (fun hc4 => ?_) (fun hc4 => ?_)
   ·(conv => whnf)
    refine st ?_
    intro hlen3
    (try rw [List.length_map] at hlen3)
    (try rw [List.length_map])
    refine st ?_
    refine Zl false (fun hc5 => ?_) (fun hc5 => ?_)
    ·(conv => whnf)
     refine st ?_
     exact wx (WS.mk (tp (Zd (Zs (web (And.intro hc4 hc5))) Zc)) (Zf rfl (cc (cc (cc (cc Zh)))) Zb))
    ·(conv => whnf)
     refine st ?_
     refine Zl true (fun hc6 => ?_) (fun hc6 => ?_)
     ·(conv => whnf)
      refine st ?_
      exact wx (WS.mk (tp (Zd (Zs (web (And.intro hc4 (And.intro hc5 hc6)))) Zc)) (Zf rfl (cc (cc (cc (cc Zh)))) Zb))
     ·(conv => whnf)
      refine st ?_
      exact wx (WS.mk (tp (Zd (Zs (web (And.intro hc4 (And.intro hc5 hc6)))) Zc)) (Zf rfl (cc (cc (cc (cc Zh)))) Zb))
   ·(conv => whnf)
    refine st ?_
    refine Zl true (fun hc7 => ?_) (fun hc7 => ?_)
    ·(conv => whnf)
     refine st ?_
     exact wx (WS.mk (tp (Zd (Zs (web (And.intro hc4 hc7))) Zc)) (Zf rfl (cc (cc (cc (cc Zh)))) Zb))
    ·(conv => whnf)
     refine st ?_
     exact wx (WS.mk (tp (Zd (Zs (web (And.intro hc4 hc7))) Zc)) (Zf rfl (cc (cc (cc (cc Zh)))) Zb))
  obtain ⟨r0, hw⟩ := hw
  (conv => whnf)
  refine AWP.weak r0 hw ?_
  refine nw ?_
  refine Zj hF (fun hc8 hF => ?_) (fun hc8 hF => ?_)
  ·refine AWP.seq ?_
   refine ns ?_
   obtain rfl := Zg hF
   refine ns ?_
   refine Exists.intro [] ?_
   refine st ?_
   exact wx (WS.mk (tc Zc) Zb)
  ·refine nw ?_
   refine AWP.seq ?_
   obtain ⟨r9, hr9, hF⟩ := bind_some hF
   refine ns ?_
   refine ZnT (m := ([] : List (Int × Int))) (k := 3) (v := 2) Zl4 (ev := Zb6) (lc Zo) ?_
   refine st ?_
   refine ZnT (m := (Zhl ([] : List (Int × Int)) 3 2)) (k := 4) (v := 1) Zl4 (ev := Zb6) (lc Zo) ?_
   refine st ?_
   refine Zhd (m := (Zhl (Zhl ([] : List (Int × Int)) 3 2) 4 1)) (k := t.fOp) Zl4 (ev := Zb6) hr9 rfl (fun x => Zl2 x) rfl rfl (lc Zo) ?_
   refine st ?_
   refine AWP.seq ?_
   refine AWP.seq ?_
   obtain ⟨c16, ZeI, hF⟩ := bind_some hF
   refine AWP.cutN (fun T => ∃ r, WS r T ⟨[(1, .ptr 1 0), (38, .c none (.v (.bool c16)))], [(1, [(none, .v (.int .i64 t.fOp)), (none, .v (.string t.fName)), (none, .sl (t.fBound.fArgs.map Zi.cells)), (none, .sl (t.fKids.map Za.cells))])]⟩) ?_ (fun T hw => ?_)
   ·refine ns ?_
    intro hlen14
    (try rw [List.length_map] at hlen14)
    (try rw [List.length_map])
    refine st ?_
    refine Zl false (fun Zfl => ?_) (fun Zfl => ?_)
    ·have ZeI := ift Zfl ZeI
     (conv => whnf)
     obtain rfl := Zg ZeI
     refine st ?_
     exact wx (WS.mk (tp (Zd (Zs (web Zfl)) Zc)) (Zf rfl (cc (cc (cc (cc Zh)))) Zb))
    ·have ZeI := ife Zfl ZeI
     obtain ⟨r15, ZAK, ZeI⟩ := bind_some ZeI
     (conv => whnf)
     refine st ?_
     refine e3 ?_
     refine st ?_
     refine cm (Zk.weak (rn []) (ZeV t.fKids _ ZAK) rfl (WS.mk (tc (tc Zc)) Zb)) ?_
     refine st ?_
     obtain rfl := Zg ZeI
     refine st ?_
     exact wx (WS.mk (tp (Zd (Zs (web Zfl)) Zc)) (Zf rfl (cc (cc (cc (cc Zh)))) Zb))
   obtain ⟨r0, hw⟩ := hw
   (conv => whnf)
   refine AWP.weak r0 hw ?_
   refine nw ?_
   refine Zj hF (fun ZjH hF => ?_) (fun ZjH hF => ?_)
   ·refine AWP.seq ?_
    refine ns ?_
    obtain rfl := Zg hF
    refine ns ?_
    refine Exists.intro [] ?_
    refine st ?_
    exact wx (WS.mk (tc Zc) Zb)
   ·refine nw ?_
    refine AWP.seq ?_
    refine AWP.seq ?_
    refine ns ?_
    refine AWP.block ?_
    refine AWP.seq ?_
    refine AWP.seq ?_
    refine ns ?_
    refine nw ?_
    refine Zj hF (fun Zta hF => ?_) (fun Zta hF => ?_)
    ·refine nw ?_
     refine AWP.weak (rn []) ?_ (ZiU t (t.fOp == 1) _ hF)
     exact (WS.mk (tp (tc (tc Zc))) (Zf rfl (cc (cc (cc (cc Zh)))) Zb))
    ·refine ns ?_
     refine AWP.weak (rn []) ?_ (ZiU t (t.fOp == 4) _ hF)
     exact (WS.mk (tp (tc (tc Zc))) (Zf rfl (cc (cc (cc (cc Zh)))) Zb))
 ·intro slices_IndexFunc_Type_types_formed_1' Zfj s r hF
  unfold ZU.M
  refine en Tryz.func79 ?_
  refine AWP.seq ?_
  refine ns ?_
  refine AWP.seq ?_
  obtain ⟨r1, hr1, hF⟩ := bind_some hF
  refine ns ?_
  refine e3 ?_
  refine st ?_
  refine cm (Zk.weak (rn []) (Zfj s _ hr1) rfl (WS.mk (tc (tc Zc)) Zb)) ?_
  refine st ?_
  obtain rfl := Zg hF
  refine ns ?_
  refine Exists.intro [] ?_
  refine st ?_
  exact wx (WS.mk (tc Zc) Zb)
 ·intro slices_IndexFunc_Type_types_formed_1_l1' ZbY s r hF
  unfold Zad.M
  refine en Tryz.func104 ?_
  refine AWP.seq ?_
  refine ns ?_
  refine AWP.seq ?_
  refine AWP.seq ?_
  refine ns ?_
  intro hlen1
  (try rw [List.length_map] at hlen1)
  (try rw [List.length_map])
  refine st ?_
  refine AWP.block ?_
  refine AWP.loop ?_
  refine AWL.weak (rn []) ?_ (ZbY s 0 s _ hF ([]) rfl rfl hlen1)
  exact (WS.mk (tc (tc (tc (tc Zc)))) Zb)
 ·intro slices_IndexFunc_Type_types_formed_1_l1' types_formed_1' ZbY Zn7 s x_8 ZbO r hF
  unfold ZI.M
  intro ZdO Zi0 ZiJ hlen1
  refine AWL.step ?_
  refine AWP.seq ?_
  refine ns ?_
  refine AWP.seq ?_
  refine nw ?_
  refine ZS Zi0 ZiJ (fun x13 Zu3 Zv1 ZAo ZDw => ?_) (fun Zv1 => ?_)
  ·subst Zv1
   refine nw ?_
   refine AWP.seq ?_
   refine AWP.block ?_
   refine AWP.seq ?_
   refine ns ?_
   refine AWP.seq ?_
   obtain ⟨r16, Zyt, hF⟩ := bind_some hF
   refine nn ?_
   refine sr (Zau (f := Za.cells) (Za.cells_eq x13) ZAo) ?_
   refine st ?_
   refine e3 ?_
   refine st ?_
   refine cm (Zk.weak (rn []) (Zn7 x13 _ Zyt) rfl (WS.mk (Zd (Zt (lc (lc (lc (lc Zo))))) Zc) Zb)) ?_
   refine st ?_
   refine nw ?_
   refine Zj hF (fun Zfl hF => ?_) (fun Zfl hF => ?_)
   ·refine AWP.seq ?_
    refine ns ?_
    obtain rfl := Zg hF
    refine ns ?_
    refine Exists.intro [] ?_
    refine st ?_
    exact wx (WS.mk (tc Zc) Zb)
   ·refine nw ?_
    refine ns ?_
    refine AWL.weak (rn []) ?_ (ZbY s (x_8 + 1) Zu3 _ hF (ZdO ++ [x13]) (by rw [Zi0]; simp) (by rw [ZiJ]; simp) hlen1)
    exact (WS.mk (tc (tc (tc (Zd (Zs (Zdd (ZZ hlen1 ZDw))) Zc)))) Zb)
  ·subst Zv1
   refine nw ?_
   refine AWP.seq ?_
   refine ns ?_
   obtain rfl := Zg hF
   refine ns ?_
   refine Exists.intro [] ?_
   refine st ?_
   exact wx (WS.mk (tc Zc) Zb)
 ·intro types_formed' ZpQ k r hF
  unfold Zdv.M
  refine en Tryz.func101 ?_
  refine AWP.seq ?_
  refine ns ?_
  refine AWP.seq ?_
  obtain ⟨r1, hr1, hF⟩ := bind_some hF
  refine ns ?_
  refine e3 ?_
  refine st ?_
  refine cm (Zk.weak (rn []) (ZpQ k _ hr1) rfl (WS.mk (Zd (Zt (lc (lc (lc (lc Zo))))) Zc) Zb)) ?_
  refine st ?_
  obtain rfl := Zg hF
  refine ns ?_
  refine Exists.intro [] ?_
  refine st ?_
  exact wx (WS.mk (tc Zc) Zb)
theorem ZpG : ∀ (t : Za), ∀ r, ZbF t = some r → ZbF.M t r := ZoF.1

mutual
def Zbf (k : Zi) : Option (Int) :=
 ZbD 0 k 0 k.fArgs
 partial_fixpoint
def ZbD (n_3 : Int) (k : Zi) (x_9 : Nat) (Zb0 : (List Zi)) : Option (Int) :=
 (match Zb0 with
 | x11 :: Zkm =>
 Zbf x11 >>= fun r14 =>
 ZbD (if r14 > n_3 then r14 else n_3) k (x_9 + 1) Zkm
 | [] =>
 some (IntKind.i64.wrap (n_3 + 1)))
 partial_fixpoint
end
def Zbf.M (k : Zi) (r : Int) : Prop :=
 Zk Tryz.prog 78 [.agg [.sl (k.fArgs.map Zi.cells)]] [] (fun d b => d = .c none (.v (.int .i64 r)) ∧ b = [])
def ZbD.M (n_3 : Int) (k : Zi) (x_9 : Nat) (Zb0 : (List Zi)) (r : Int) : Prop :=
 ∀ ZcY : List Zi, k.fArgs = ZcY ++ Zb0 → x_9 = ZcY.length → k.fArgs.length ≤ maxLen → AWL Tryz.prog 20 (Code.sub (Zq Tryz.f78) [1, 1, 0, 1, 0, 0]) (Code.cont Tryz.prog 20 (Zq Tryz.f78) [1, 1, 0, 1, 0] (ZbS tab Tryz.f78.results (ZbX (.c none (.v (.int .i64 r))) []))) ⟨[(3, .c none (.v (.int .i64 n_3))), (7, .c none (.sl (k.fArgs.map Zi.cells))), (8, .c none (.v (.int .i64 ((k.fArgs.length : Nat) : Int)))), (9, .c none (.v (.int .i64 ((x_9 : Nat) : Int))))], []⟩
theorem ZmE : (∀ (k : Zi), ∀ r, Zbf k = some r → Zbf.M k r) ∧ (∀ (n_3 : Int) (k : Zi) (x_9 : Nat) (Zb0 : (List Zi)), ∀ r, ZbD n_3 k x_9 Zb0 = some r → ZbD.M n_3 k x_9 Zb0 r) := by
 refine Zbf.mutual_partial_correctness Zbf.M ZbD.M ?_ ?_
 ·intro types_kindDepth_l1' Ze9 k r hF
  unfold Zbf.M
  refine en Tryz.func78 ?_
  refine AWP.seq ?_
  refine ns ?_
  refine AWP.seq ?_
  refine ns ?_
  refine AWP.seq ?_
  refine AWP.seq ?_
  refine ns ?_
  intro hlen1
  (try rw [List.length_map] at hlen1)
  (try rw [List.length_map])
  refine st ?_
  refine AWP.block ?_
  refine AWP.loop ?_
  refine AWL.weak (rn []) ?_ (Ze9 0 k 0 k.fArgs _ hF ([]) rfl rfl hlen1)
  exact (WS.mk (tc (tc (tc (tc Zc)))) Zb)
 ·intro types_kindDepth' types_kindDepth_l1' Znv Ze9 n_3 k x_9 Zb0 r hF
  unfold ZbD.M
  intro ZcY ZgZ Zhf hlen1
  refine AWL.step ?_
  refine AWP.seq ?_
  refine ns ?_
  refine AWP.seq ?_
  refine nw ?_
  refine ZS ZgZ Zhf (fun x11 Zkm ZkY Zre ZtD => ?_) (fun ZkY => ?_)
  ·subst ZkY
   refine nw ?_
   refine AWP.seq ?_
   refine AWP.block ?_
   refine AWP.seq ?_
   refine nn ?_
   refine sr (Zau (f := Zi.cells) (Zi.cells_eq x11) Zre) ?_
   refine st ?_
   obtain ⟨r14, Zq7, hF⟩ := bind_some hF
   refine ns ?_
   refine e3 ?_
   refine st ?_
   refine cm (Zk.weak (rn []) (Znv x11 _ Zq7) rfl (WS.mk (Zd (Zt (lc Zo)) Zc) Zb)) ?_
   refine st ?_
   refine ns ?_
   refine AWL.weak (rn []) ?_ (Ze9 (if r14 > n_3 then r14 else n_3) k (x_9 + 1) Zkm _ hF (ZcY ++ [x11]) (by rw [ZgZ]; simp) (by rw [Zhf]; simp) hlen1)
   exact (WS.mk (tc (tc (tc (Zd (Zs (Zdd (ZZ hlen1 ZtD))) Zc)))) Zb)
  ·subst ZkY
   refine nw ?_
   refine AWP.seq ?_
   refine ns ?_
   obtain rfl := Zg hF
   refine ns ?_
   refine Exists.intro [] ?_
   refine st ?_
   exact wx (WS.mk (tc Zc) Zb)
theorem Znb : ∀ (k : Zi), ∀ r, Zbf k = some r → Zbf.M k r := ZmE.1

mutual
def ZF (t : Za) : Option (Int) :=
 Zbf t.fBound >>= fun r1 =>
 ZT r1 t 0 t.fKids
 partial_fixpoint
def ZT (n_5 : Int) (t : Za) (Zg2 : Nat) (Zc7 : (List Za)) : Option (Int) :=
 (match Zc7 with
 | x12 :: Zu1 =>
 ZF x12 >>= fun r15 =>
 ZT (if r15 > n_5 then r15 else n_5) t (Zg2 + 1) Zu1
 | [] =>
 some n_5)
 partial_fixpoint
end
def ZF.M (t : Za) (r : Int) : Prop :=
 Zk Tryz.prog 75 [.agg [.v (.int .i64 t.fOp), .v (.string t.fName), .sl (t.fBound.fArgs.map Zi.cells), .sl (t.fKids.map Za.cells)], .c none (.v (.func (.func 78) #[] #[]))] [] (fun d b => d = .c none (.v (.int .i64 r)) ∧ b = [])
def ZT.M (n_5 : Int) (t : Za) (Zg2 : Nat) (Zc7 : (List Za)) (r : Int) : Prop :=
 ∀ Zeo : List Za, t.fKids = Zeo ++ Zc7 → Zg2 = Zeo.length → t.fKids.length ≤ maxLen → AWL Tryz.prog 26 (Code.sub (Zq Tryz.f75) [1, 1, 0, 1, 0, 0]) (Code.cont Tryz.prog 26 (Zq Tryz.f75) [1, 1, 0, 1, 0] (ZbS tab Tryz.f75.results (ZbX (.c none (.v (.int .i64 r))) []))) ⟨[(1, .c none (.v (.func (.func 78) #[] #[]))), (5, .c none (.v (.int .i64 n_5))), (13, .c none (.sl (t.fKids.map Za.cells))), (14, .c none (.v (.int .i64 ((t.fKids.length : Nat) : Int)))), (15, .c none (.v (.int .i64 ((Zg2 : Nat) : Int))))], []⟩
theorem Zgq : (∀ (t : Za), ∀ r, ZF t = some r → ZF.M t r) ∧ (∀ (n_5 : Int) (t : Za) (Zg2 : Nat) (Zc7 : (List Za)), ∀ r, ZT n_5 t Zg2 Zc7 = some r → ZT.M n_5 t Zg2 Zc7 r) := by
 refine ZF.mutual_partial_correctness ZF.M ZT.M ?_ ?_
 ·intro types_greatest_types_kindDepth_l1' ZcL t r hF
  unfold ZF.M
  refine en Tryz.func75 ?_
  refine AWP.seq ?_
  refine ns ?_
  refine AWP.seq ?_
  obtain ⟨r1, hr1, hF⟩ := bind_some hF
  refine ns ?_
  refine e3 ?_
  refine st ?_
  refine cm (Zk.weak (rn []) (Znb t.fBound _ hr1) rfl (WS.mk (Zd (Zt (lc Zo)) Zc) Zb)) ?_
  refine st ?_
  refine AWP.seq ?_
  refine AWP.seq ?_
  refine ns ?_
  intro hlen2
  (try rw [List.length_map] at hlen2)
  (try rw [List.length_map])
  refine st ?_
  refine AWP.block ?_
  refine AWP.loop ?_
  refine AWL.weak (rn []) ?_ (ZcL r1 t 0 t.fKids _ hF ([]) rfl rfl hlen2)
  exact (WS.mk (tc (tc (tc (tc (tc Zc))))) Zb)
 ·intro types_greatest_types_kindDepth' types_greatest_types_kindDepth_l1' ZgM ZcL n_5 t Zg2 Zc7 r hF
  unfold ZT.M
  intro Zeo Zjt Zjl hlen2
  refine AWL.step ?_
  refine AWP.seq ?_
  refine ns ?_
  refine AWP.seq ?_
  refine nw ?_
  refine ZS Zjt Zjl (fun x12 Zu1 ZvH ZDW ZCU => ?_) (fun ZvH => ?_)
  ·subst ZvH
   refine nw ?_
   refine AWP.seq ?_
   refine AWP.block ?_
   refine AWP.seq ?_
   refine nn ?_
   refine sr (Zau (f := Za.cells) (Za.cells_eq x12) ZDW) ?_
   refine st ?_
   obtain ⟨r15, ZAK, hF⟩ := bind_some hF
   refine ns ?_
   refine e3 ?_
   refine st ?_
   refine cm (Zk.weak (rn []) (ZgM x12 _ ZAK) rfl (WS.mk (Zd (Zt (lc (lc (lc (lc Zo))))) (tc Zc)) Zb)) ?_
   refine st ?_
   refine ns ?_
   refine AWL.weak (rn []) ?_ (ZcL (if r15 > n_5 then r15 else n_5) t (Zg2 + 1) Zu1 _ hF (Zeo ++ [x12]) (by rw [Zjt]; simp) (by rw [Zjl]; simp) hlen2)
   exact (WS.mk (tc (tc (tc (tc (Zd (Zs (Zdd (ZZ hlen2 ZCU))) Zc))))) Zb)
  ·subst ZvH
   refine nw ?_
   refine AWP.seq ?_
   refine ns ?_
   obtain rfl := Zg hF
   refine ns ?_
   refine Exists.intro [] ?_
   refine st ?_
   exact wx (WS.mk (tc Zc) Zb)
theorem ZgQ : ∀ (t : Za), ∀ r, ZF t = some r → ZF.M t r := Zgq.1

mutual
def Zbv (k : Zi) : Option (Int) :=
 ZbR 1 k 0 k.fArgs
 partial_fixpoint
def ZbR (n_3 : Int) (k : Zi) (x_9 : Nat) (Zb0 : (List Zi)) : Option (Int) :=
 (match Zb0 with
 | x11 :: Zkm =>
 Zbv x11 >>= fun r14 =>
 ZbR (IntKind.i64.wrap (n_3 + r14)) k (x_9 + 1) Zkm
 | [] =>
 some n_3)
 partial_fixpoint
end
def Zbv.M (k : Zi) (r : Int) : Prop :=
 Zk Tryz.prog 76 [.agg [.sl (k.fArgs.map Zi.cells)]] [] (fun d b => d = .c none (.v (.int .i64 r)) ∧ b = [])
def ZbR.M (n_3 : Int) (k : Zi) (x_9 : Nat) (Zb0 : (List Zi)) (r : Int) : Prop :=
 ∀ ZcY : List Zi, k.fArgs = ZcY ++ Zb0 → x_9 = ZcY.length → k.fArgs.length ≤ maxLen → AWL Tryz.prog 19 (Code.sub (Zq Tryz.f76) [1, 1, 0, 1, 0, 0]) (Code.cont Tryz.prog 19 (Zq Tryz.f76) [1, 1, 0, 1, 0] (ZbS tab Tryz.f76.results (ZbX (.c none (.v (.int .i64 r))) []))) ⟨[(3, .c none (.v (.int .i64 n_3))), (7, .c none (.sl (k.fArgs.map Zi.cells))), (8, .c none (.v (.int .i64 ((k.fArgs.length : Nat) : Int)))), (9, .c none (.v (.int .i64 ((x_9 : Nat) : Int))))], []⟩
theorem Zm5 : (∀ (k : Zi), ∀ r, Zbv k = some r → Zbv.M k r) ∧ (∀ (n_3 : Int) (k : Zi) (x_9 : Nat) (Zb0 : (List Zi)), ∀ r, ZbR n_3 k x_9 Zb0 = some r → ZbR.M n_3 k x_9 Zb0 r) := by
 refine Zbv.mutual_partial_correctness Zbv.M ZbR.M ?_ ?_
 ·intro types_kindSize_l1' ZfD k r hF
  unfold Zbv.M
  refine en Tryz.func76 ?_
  refine AWP.seq ?_
  refine ns ?_
  refine AWP.seq ?_
  refine ns ?_
  refine AWP.seq ?_
  refine AWP.seq ?_
  refine ns ?_
  intro hlen1
  (try rw [List.length_map] at hlen1)
  (try rw [List.length_map])
  refine st ?_
  refine AWP.block ?_
  refine AWP.loop ?_
  refine AWL.weak (rn []) ?_ (ZfD 1 k 0 k.fArgs _ hF ([]) rfl rfl hlen1)
  exact (WS.mk (tc (tc (tc (tc Zc)))) Zb)
 ·intro types_kindSize' types_kindSize_l1' Zn5 ZfD n_3 k x_9 Zb0 r hF
  unfold ZbR.M
  intro ZcY ZgZ Zhf hlen1
  refine AWL.step ?_
  refine AWP.seq ?_
  refine ns ?_
  refine AWP.seq ?_
  refine nw ?_
  refine ZS ZgZ Zhf (fun x11 Zkm ZkY Zre ZtD => ?_) (fun ZkY => ?_)
  ·subst ZkY
   refine nw ?_
   refine AWP.seq ?_
   refine AWP.block ?_
   refine AWP.seq ?_
   refine nn ?_
   refine sr (Zau (f := Zi.cells) (Zi.cells_eq x11) Zre) ?_
   refine st ?_
   obtain ⟨r14, Zq7, hF⟩ := bind_some hF
   refine ns ?_
   refine e3 ?_
   refine st ?_
   refine cm (Zk.weak (rn []) (Zn5 x11 _ Zq7) rfl (WS.mk (Zd (Zt (lc Zo)) Zc) Zb)) ?_
   refine st ?_
   refine ns ?_
   refine AWL.weak (rn []) ?_ (ZfD (IntKind.i64.wrap (n_3 + r14)) k (x_9 + 1) Zkm _ hF (ZcY ++ [x11]) (by rw [ZgZ]; simp) (by rw [Zhf]; simp) hlen1)
   exact (WS.mk (tc (tc (tc (Zd (Zs (Zdd (ZZ hlen1 ZtD))) Zc)))) Zb)
  ·subst ZkY
   refine nw ?_
   refine AWP.seq ?_
   refine ns ?_
   obtain rfl := Zg hF
   refine ns ?_
   refine Exists.intro [] ?_
   refine st ?_
   exact wx (WS.mk (tc Zc) Zb)
theorem ZnD : ∀ (k : Zi), ∀ r, Zbv k = some r → Zbv.M k r := Zm5.1

mutual
def ZJ (t : Za) : Option (Int) :=
 Zbv t.fBound >>= fun r1 =>
 ZV r1 t 0 t.fKids
 partial_fixpoint
def ZV (n_5 : Int) (t : Za) (Zg2 : Nat) (Zc7 : (List Za)) : Option (Int) :=
 (match Zc7 with
 | x12 :: Zu1 =>
 ZJ x12 >>= fun r15 =>
 ZV (if r15 > n_5 then r15 else n_5) t (Zg2 + 1) Zu1
 | [] =>
 some n_5)
 partial_fixpoint
end
def ZJ.M (t : Za) (r : Int) : Prop :=
 Zk Tryz.prog 75 [.agg [.v (.int .i64 t.fOp), .v (.string t.fName), .sl (t.fBound.fArgs.map Zi.cells), .sl (t.fKids.map Za.cells)], .c none (.v (.func (.func 76) #[] #[]))] [] (fun d b => d = .c none (.v (.int .i64 r)) ∧ b = [])
def ZV.M (n_5 : Int) (t : Za) (Zg2 : Nat) (Zc7 : (List Za)) (r : Int) : Prop :=
 ∀ Zeo : List Za, t.fKids = Zeo ++ Zc7 → Zg2 = Zeo.length → t.fKids.length ≤ maxLen → AWL Tryz.prog 26 (Code.sub (Zq Tryz.f75) [1, 1, 0, 1, 0, 0]) (Code.cont Tryz.prog 26 (Zq Tryz.f75) [1, 1, 0, 1, 0] (ZbS tab Tryz.f75.results (ZbX (.c none (.v (.int .i64 r))) []))) ⟨[(1, .c none (.v (.func (.func 76) #[] #[]))), (5, .c none (.v (.int .i64 n_5))), (13, .c none (.sl (t.fKids.map Za.cells))), (14, .c none (.v (.int .i64 ((t.fKids.length : Nat) : Int)))), (15, .c none (.v (.int .i64 ((Zg2 : Nat) : Int))))], []⟩
theorem ZgP : (∀ (t : Za), ∀ r, ZJ t = some r → ZJ.M t r) ∧ (∀ (n_5 : Int) (t : Za) (Zg2 : Nat) (Zc7 : (List Za)), ∀ r, ZV n_5 t Zg2 Zc7 = some r → ZV.M n_5 t Zg2 Zc7 r) := by
 refine ZJ.mutual_partial_correctness ZJ.M ZV.M ?_ ?_
 ·intro types_greatest_types_kindSize_l1' ZcQ t r hF
  unfold ZJ.M
  refine en Tryz.func75 ?_
  refine AWP.seq ?_
  refine ns ?_
  refine AWP.seq ?_
  obtain ⟨r1, hr1, hF⟩ := bind_some hF
  refine ns ?_
  refine e3 ?_
  refine st ?_
  refine cm (Zk.weak (rn []) (ZnD t.fBound _ hr1) rfl (WS.mk (Zd (Zt (lc Zo)) Zc) Zb)) ?_
  refine st ?_
  refine AWP.seq ?_
  refine AWP.seq ?_
  refine ns ?_
  intro hlen2
  (try rw [List.length_map] at hlen2)
  (try rw [List.length_map])
  refine st ?_
  refine AWP.block ?_
  refine AWP.loop ?_
  refine AWL.weak (rn []) ?_ (ZcQ r1 t 0 t.fKids _ hF ([]) rfl rfl hlen2)
  exact (WS.mk (tc (tc (tc (tc (tc Zc))))) Zb)
 ·intro types_greatest_types_kindSize' types_greatest_types_kindSize_l1' ZgX ZcQ n_5 t Zg2 Zc7 r hF
  unfold ZV.M
  intro Zeo Zjt Zjl hlen2
  refine AWL.step ?_
  refine AWP.seq ?_
  refine ns ?_
  refine AWP.seq ?_
  refine nw ?_
  refine ZS Zjt Zjl (fun x12 Zu1 ZvH ZDW ZCU => ?_) (fun ZvH => ?_)
  ·subst ZvH
   refine nw ?_
   refine AWP.seq ?_
   refine AWP.block ?_
   refine AWP.seq ?_
   refine nn ?_
   refine sr (Zau (f := Za.cells) (Za.cells_eq x12) ZDW) ?_
   refine st ?_
   obtain ⟨r15, ZAK, hF⟩ := bind_some hF
   refine ns ?_
   refine e3 ?_
   refine st ?_
   refine cm (Zk.weak (rn []) (ZgX x12 _ ZAK) rfl (WS.mk (Zd (Zt (lc (lc (lc (lc Zo))))) (tc Zc)) Zb)) ?_
   refine st ?_
   refine ns ?_
   refine AWL.weak (rn []) ?_ (ZcQ (if r15 > n_5 then r15 else n_5) t (Zg2 + 1) Zu1 _ hF (Zeo ++ [x12]) (by rw [Zjt]; simp) (by rw [Zjl]; simp) hlen2)
   exact (WS.mk (tc (tc (tc (tc (Zd (Zs (Zdd (ZZ hlen2 ZCU))) Zc))))) Zb)
  ·subst ZvH
   refine nw ?_
   refine AWP.seq ?_
   refine ns ?_
   obtain rfl := Zg hF
   refine ns ?_
   refine Exists.intro [] ?_
   refine st ?_
   exact wx (WS.mk (tc Zc) Zb)
theorem Zg3 : ∀ (t : Za), ∀ r, ZJ t = some r → ZJ.M t r := ZgP.1

def ZbT (t : Za) : Option (Int) :=
 ZbF t >>= fun r1 =>
 if (!r1) = true then
 some 1
 else
 Zcg t >>= fun r3 =>
 (if (decide (r3 > 20000)) = true then some true else ZJ t >>= fun r4 =>
 some (decide (r4 > 20000))) >>= fun c5 =>
 if c5 = true then
 some 3
 else
 ZbU t >>= fun r8 =>
 (if (decide (r8 > 100)) = true then some true else ZF t >>= fun r9 =>
 some (decide (r9 > 100))) >>= fun c10 =>
 if c10 = true then
 some 4
 else
 some 0
def ZbT.M (t : Za) (r : Int) : Prop :=
 Zk Tryz.prog 50 [.agg [.v (.int .i64 t.fOp), .v (.string t.fName), .sl (t.fBound.fArgs.map Zi.cells), .sl (t.fKids.map Za.cells)]] [] (fun d b => d = .c none (.v (.int .i64 r)) ∧ b = [])
theorem ZeF (t : Za) (r : Int) (hF : ZbT t = some r) : ZbT.M t r := by
 unfold ZbT at hF
 unfold ZbT.M
 refine en Tryz.func50 ?_
 refine AWP.seq ?_
 refine ns ?_
 refine AWP.seq ?_
 refine AWP.block ?_
 refine AWP.seq ?_
 obtain ⟨r1, hr1, hF⟩ := bind_some hF
 refine ns ?_
 refine e3 ?_
 refine st ?_
 refine cm (Zk.weak (rn []) (ZpG t _ hr1) rfl (WS.mk (Zd (Zt (lc (lc (lc (lc Zo))))) Zc) Zb)) ?_
 refine st ?_
 refine nw ?_
 refine Zj hF (fun hc2 hF => ?_) (fun hc2 hF => ?_)
 ·refine AWP.seq ?_
  refine ns ?_
  obtain rfl := Zg hF
  refine ns ?_
  refine Exists.intro [] ?_
  refine st ?_
  exact wx (WS.mk (tc Zc) Zb)
 ·refine AWP.seq ?_
  obtain ⟨r3, hr3, hF⟩ := bind_some hF
  obtain ⟨c5, hc5, hF⟩ := bind_some hF
  refine AWP.cutN (fun T => ∃ r, WS r T ⟨[(1, .ptr 1 0), (7, .c none (.v (.bool c5)))], [(1, [(none, .v (.int .i64 t.fOp)), (none, .v (.string t.fName)), (none, .sl (t.fBound.fArgs.map Zi.cells)), (none, .sl (t.fKids.map Za.cells))])]⟩) ?_ (fun T hw => ?_)
  ·refine ns ?_
   refine e3 ?_
   refine st ?_
   refine cm (Zk.weak (rn []) (Zm3 t _ hr3) rfl (WS.mk (Zd (Zt (lc (lc (lc (lc Zo))))) Zc) Zb)) ?_
   refine st ?_
   refine Zl false (fun hc6 => ?_) (fun hc6 => ?_)
   ·have hc5 := ift hc6 hc5
    (conv => whnf)
    obtain rfl := Zg hc5
    refine st ?_
    exact wx (WS.mk (tp (Zd (Zs (web hc6)) Zc)) (Zf rfl (cc (cc (cc (cc Zh)))) Zb))
   ·have hc5 := ife hc6 hc5
    obtain ⟨r4, hr4, hc5⟩ := bind_some hc5
    (conv => whnf)
    refine st ?_
    refine e3 ?_
    refine st ?_
    refine cm (Zk.weak (rn []) (Zg3 t _ hr4) rfl (WS.mk (Zd (Zt (lc (lc (lc (lc Zo))))) (tc Zc)) Zb)) ?_
    refine st ?_
    obtain rfl := Zg hc5
    refine st ?_
    exact wx (WS.mk (tp (Zd (Zs (web hc6)) Zc)) (Zf rfl (cc (cc (cc (cc Zh)))) Zb))
  obtain ⟨r0, hw⟩ := hw
  (conv => whnf)
  refine AWP.weak r0 hw ?_
  refine nw ?_
  refine Zj hF (fun hc7 hF => ?_) (fun hc7 hF => ?_)
  ·refine AWP.seq ?_
   refine ns ?_
   obtain rfl := Zg hF
   refine ns ?_
   refine Exists.intro [] ?_
   refine st ?_
   exact wx (WS.mk (tc Zc) Zb)
  ·refine AWP.seq ?_
   obtain ⟨r8, hr8, hF⟩ := bind_some hF
   obtain ⟨c10, ZeC, hF⟩ := bind_some hF
   refine AWP.cutN (fun T => ∃ r, WS r T ⟨[(16, .c none (.v (.bool c10)))], []⟩) ?_ (fun T hw => ?_)
   ·refine ns ?_
    refine e3 ?_
    refine st ?_
    refine cm (Zk.weak (rn []) (ZlR t _ hr8) rfl (WS.mk (Zd (Zt (lc (lc (lc (lc Zo))))) Zc) Zb)) ?_
    refine st ?_
    refine Zl false (fun Zct => ?_) (fun Zct => ?_)
    ·have ZeC := ift Zct ZeC
     (conv => whnf)
     obtain rfl := Zg ZeC
     refine st ?_
     exact wx (WS.mk (Zd (Zs (web Zct)) Zc) Zb)
    ·have ZeC := ife Zct ZeC
     obtain ⟨r9, hr9, ZeC⟩ := bind_some ZeC
     (conv => whnf)
     refine st ?_
     refine e3 ?_
     refine st ?_
     refine cm (Zk.weak (rn []) (ZgQ t _ hr9) rfl (WS.mk (Zd (Zt (lc (lc (lc (lc Zo))))) (tc Zc)) Zb)) ?_
     refine st ?_
     obtain rfl := Zg ZeC
     refine st ?_
     exact wx (WS.mk (Zd (Zs (web Zct)) Zc) Zb)
   obtain ⟨r0, hw⟩ := hw
   (conv => whnf)
   refine AWP.weak r0 hw ?_
   refine nw ?_
   refine Zj hF (fun Zd9 hF => ?_) (fun Zd9 hF => ?_)
   ·refine AWP.seq ?_
    refine ns ?_
    obtain rfl := Zg hF
    refine ns ?_
    refine Exists.intro [] ?_
    refine st ?_
    exact wx (WS.mk (tc Zc) Zb)
   ·refine nw ?_
    refine AWP.seq ?_
    refine ns ?_
    obtain rfl := Zg hF
    refine ns ?_
    refine Exists.intro [] ?_
    refine st ?_
    exact wx (WS.mk (tc Zc) Zb)

mutual
def Zaf (t : Za) : Option (Int) :=
 Zbo 0 0 t t.fKids
 partial_fixpoint
def Zbo (n_3 : Int) (i_4 : Nat) (t : Za) (Zaz : (List Za)) : Option (Int) :=
 (match Zaz with
 | x16 :: Zib =>
 Zaf x16 >>= fun r19 =>
 Zbo (if r19 > n_3 then r19 else n_3) (i_4 + 1) t Zib
 | [] =>
 some (IntKind.i64.wrap (n_3 + 1)))
 partial_fixpoint
end
def Zaf.M (t : Za) (r : Int) : Prop :=
 Zk Tryz.prog 29 [.agg [.v (.int .i64 t.fOp), .v (.string t.fName), .sl (t.fBound.fArgs.map Zi.cells), .sl (t.fKids.map Za.cells)]] [] (fun d b => d = .c none (.v (.int .i64 r)) ∧ b = [])
def Zbo.M (n_3 : Int) (i_4 : Nat) (t : Za) (Zaz : (List Za)) (r : Int) : Prop :=
 ∀ Zci : List Za, t.fKids = Zci ++ Zaz → i_4 = Zci.length → AWL Tryz.prog 22 (Code.sub (Zq Tryz.f29) [1, 1, 0, 1, 0, 0]) (Code.cont Tryz.prog 22 (Zq Tryz.f29) [1, 1, 0, 1, 0] (ZbS tab Tryz.f29.results (ZbX (.c none (.v (.int .i64 r))) []))) ⟨[(1, .ptr 1 0), (3, .c none (.v (.int .i64 n_3))), (4, .c none (.v (.int .i64 ((i_4 : Nat) : Int))))], [(1, [(none, .v (.int .i64 t.fOp)), (none, .v (.string t.fName)), (none, .sl (t.fBound.fArgs.map Zi.cells)), (none, .sl (t.fKids.map Za.cells))])]⟩
theorem ZlQ : (∀ (t : Za), ∀ r, Zaf t = some r → Zaf.M t r) ∧ (∀ (n_3 : Int) (i_4 : Nat) (t : Za) (Zaz : (List Za)), ∀ r, Zbo n_3 i_4 t Zaz = some r → Zbo.M n_3 i_4 t Zaz r) := by
 refine Zaf.mutual_partial_correctness Zaf.M Zbo.M ?_ ?_
 ·intro lazycref04_Depth_l1' ZeT t r hF
  unfold Zaf.M
  refine en Tryz.func29 ?_
  refine AWP.seq ?_
  refine ns ?_
  refine AWP.seq ?_
  refine ns ?_
  refine AWP.seq ?_
  refine AWP.seq ?_
  refine ns ?_
  refine AWP.block ?_
  refine AWP.loop ?_
  refine AWL.weak (rn []) ?_ (ZeT 0 0 t t.fKids _ hF ([]) rfl rfl)
  exact (WS.mk (tp (tc (tc Zc))) (Zf rfl (cc (cc (cc (cc Zh)))) Zb))
 ·intro lazycref04_Depth' lazycref04_Depth_l1' ZmP ZeT n_3 i_4 t Zaz r hF
  unfold Zbo.M
  intro Zci Zfr Zft
  refine AWL.step ?_
  refine AWP.seq ?_
  refine AWP.seq ?_
  refine ns ?_
  intro hlen15
  (try rw [List.length_map] at hlen15)
  (try rw [List.length_map])
  refine st ?_
  refine nw ?_
  refine ZS Zfr Zft (fun x16 Zib ZiX Zqu Zrv => ?_) (fun ZiX => ?_)
  ·subst ZiX
   refine nw ?_
   refine AWP.seq ?_
   refine AWP.block ?_
   obtain ⟨r19, ZsL, hF⟩ := bind_some hF
   refine nn ?_
   refine sr (Zau (f := Za.cells) (Za.cells_eq x16) Zqu) ?_
   refine st ?_
   refine e3 ?_
   refine st ?_
   refine cm (Zk.weak (rn []) (ZmP x16 _ ZsL) rfl (WS.mk (Zd (Zt (lc (lc (lc (lc Zo))))) Zc) Zb)) ?_
   refine st ?_
   refine ns ?_
   refine AWL.weak (rn []) ?_ (ZeT (if r19 > n_3 then r19 else n_3) (i_4 + 1) t Zib _ hF (Zci ++ [x16]) (by rw [Zfr]; simp) (by rw [Zft]; simp))
   exact (WS.mk (tp (tc (Zd (Zs (Zdd (ZZ hlen15 Zrv))) Zc))) (Zf rfl (cc (cc (cc (cc Zh)))) Zb))
  ·subst ZiX
   refine nw ?_
   refine AWP.seq ?_
   refine ns ?_
   obtain rfl := Zg hF
   refine ns ?_
   refine Exists.intro [] ?_
   refine st ?_
   exact wx (WS.mk (tc Zc) Zb)
theorem ZfY : ∀ (t : Za), ∀ r, Zaf t = some r → Zaf.M t r := ZlQ.1

mutual
def Zai (t : Za) : Option (Int) :=
 Zbz 1 0 t t.fKids
 partial_fixpoint
def Zbz (n_3 : Int) (i_4 : Nat) (t : Za) (Zaz : (List Za)) : Option (Int) :=
 (match Zaz with
 | x16 :: Zib =>
 Zai x16 >>= fun r19 =>
 Zbz (IntKind.i64.wrap (n_3 + r19)) (i_4 + 1) t Zib
 | [] =>
 some n_3)
 partial_fixpoint
end
def Zai.M (t : Za) (r : Int) : Prop :=
 Zk Tryz.prog 28 [.agg [.v (.int .i64 t.fOp), .v (.string t.fName), .sl (t.fBound.fArgs.map Zi.cells), .sl (t.fKids.map Za.cells)]] [] (fun d b => d = .c none (.v (.int .i64 r)) ∧ b = [])
def Zbz.M (n_3 : Int) (i_4 : Nat) (t : Za) (Zaz : (List Za)) (r : Int) : Prop :=
 ∀ Zci : List Za, t.fKids = Zci ++ Zaz → i_4 = Zci.length → AWL Tryz.prog 21 (Code.sub (Zq Tryz.f28) [1, 1, 0, 1, 0, 0]) (Code.cont Tryz.prog 21 (Zq Tryz.f28) [1, 1, 0, 1, 0] (ZbS tab Tryz.f28.results (ZbX (.c none (.v (.int .i64 r))) []))) ⟨[(1, .ptr 1 0), (3, .c none (.v (.int .i64 n_3))), (4, .c none (.v (.int .i64 ((i_4 : Nat) : Int))))], [(1, [(none, .v (.int .i64 t.fOp)), (none, .v (.string t.fName)), (none, .sl (t.fBound.fArgs.map Zi.cells)), (none, .sl (t.fKids.map Za.cells))])]⟩
theorem ZmA : (∀ (t : Za), ∀ r, Zai t = some r → Zai.M t r) ∧ (∀ (n_3 : Int) (i_4 : Nat) (t : Za) (Zaz : (List Za)), ∀ r, Zbz n_3 i_4 t Zaz = some r → Zbz.M n_3 i_4 t Zaz r) := by
 refine Zai.mutual_partial_correctness Zai.M Zbz.M ?_ ?_
 ·intro lazycref04_Size_l1' Ze8 t r hF
  unfold Zai.M
  refine en Tryz.func28 ?_
  refine AWP.seq ?_
  refine ns ?_
  refine AWP.seq ?_
  refine ns ?_
  refine AWP.seq ?_
  refine AWP.seq ?_
  refine ns ?_
  refine AWP.block ?_
  refine AWP.loop ?_
  refine AWL.weak (rn []) ?_ (Ze8 1 0 t t.fKids _ hF ([]) rfl rfl)
  exact (WS.mk (tp (tc (tc Zc))) (Zf rfl (cc (cc (cc (cc Zh)))) Zb))
 ·intro lazycref04_Size' lazycref04_Size_l1' Znh Ze8 n_3 i_4 t Zaz r hF
  unfold Zbz.M
  intro Zci Zfr Zft
  refine AWL.step ?_
  refine AWP.seq ?_
  refine AWP.seq ?_
  refine ns ?_
  intro hlen15
  (try rw [List.length_map] at hlen15)
  (try rw [List.length_map])
  refine st ?_
  refine nw ?_
  refine ZS Zfr Zft (fun x16 Zib ZiX Zqu Zrv => ?_) (fun ZiX => ?_)
  ·subst ZiX
   refine nw ?_
   refine AWP.seq ?_
   refine AWP.block ?_
   obtain ⟨r19, ZsL, hF⟩ := bind_some hF
   refine nn ?_
   refine sr (Zau (f := Za.cells) (Za.cells_eq x16) Zqu) ?_
   refine st ?_
   refine e3 ?_
   refine st ?_
   refine cm (Zk.weak (rn []) (Znh x16 _ ZsL) rfl (WS.mk (Zd (Zt (lc (lc (lc (lc Zo))))) Zc) Zb)) ?_
   refine st ?_
   refine ns ?_
   refine AWL.weak (rn []) ?_ (Ze8 (IntKind.i64.wrap (n_3 + r19)) (i_4 + 1) t Zib _ hF (Zci ++ [x16]) (by rw [Zfr]; simp) (by rw [Zft]; simp))
   exact (WS.mk (tp (tc (Zd (Zs (Zdd (ZZ hlen15 Zrv))) Zc))) (Zf rfl (cc (cc (cc (cc Zh)))) Zb))
  ·subst ZiX
   refine nw ?_
   refine AWP.seq ?_
   refine ns ?_
   obtain rfl := Zg hF
   refine ns ?_
   refine Exists.intro [] ?_
   refine st ?_
   exact wx (WS.mk (tc Zc) Zb)
theorem Zgy : ∀ (t : Za), ∀ r, Zai t = some r → Zai.M t r := ZmA.1

def Zan (n : Int) (s_3 : ByteArray) (i_4 : Nat) : Option (ByteArray) :=
 if (decide (((i_4 : Nat) : Int) < n)) = true then
 ZK (((s_3.size + (ByteArray.mk #[44]).size : Nat) : Int) ≤ IntKind.i64.max) >>= fun _ =>
 ZK (i_4 + 1 ≤ 9223372036854775807) >>= fun _ =>
 Zan n (s_3 ++ (ByteArray.mk #[44])) (i_4 + 1)
 else
 ZK (((s_3.size + (ByteArray.mk #[41]).size : Nat) : Int) ≤ IntKind.i64.max) >>= fun _ =>
 some (s_3 ++ (ByteArray.mk #[41]))
 partial_fixpoint
def Zan.M (n : Int) (s_3 : ByteArray) (i_4 : Nat) (r : ByteArray) : Prop :=
 AWL Tryz.prog 14 (Code.sub (Zq Tryz.f128) [1, 1, 0, 1, 0, 0]) (Code.cont Tryz.prog 14 (Zq Tryz.f128) [1, 1, 0, 1, 0] (ZbS tab Tryz.f128.results (ZbX (.c none (.v (.string r))) []))) ⟨[(0, .c none (.v (.int .i64 n))), (3, .c none (.v (.string s_3))), (4, .c none (.v (.int .i64 ((i_4 : Nat) : Int))))], []⟩
theorem Zi1 (n : Int) (s_3 : ByteArray) (i_4 : Nat) : ∀ r, Zan n s_3 i_4 = some r → Zan.M n s_3 i_4 r := by
 refine Zan.partial_correctness n (fun s_3 i_4 r => Zan.M n s_3 i_4 r) ?_ s_3 i_4
 intro lazycref04_TupleName_l1' Zfh s_3 i_4 r hF
 have ZiQ := fun (_n : Int) (s_3 : ByteArray) (i_4 : Nat) => Zfh s_3 i_4
 clear Zfh
 unfold Zan.M
 refine AWL.step ?_
 refine AWP.seq ?_
 refine AWP.seq ?_
 refine ns ?_
 refine nw ?_
 refine Zj hF (fun hc9 hF => ?_) (fun hc9 hF => ?_)
 ·refine nw ?_
  refine AWP.seq ?_
  refine AWP.block ?_
  obtain ⟨ZyP, hF⟩ := Zy hF
  refine ns ?_
  refine And.intro ZyP ?_
  refine st ?_
  obtain ⟨ZDO, hF⟩ := Zy hF
  refine ns ?_
  refine AWL.weak (rn []) ?_ (ZiQ n (s_3 ++ (ByteArray.mk #[44])) (i_4 + 1) _ hF)
  exact (WS.mk (tc (tc (Zd (Zs (Zdd (Zc8 ZDO))) Zc))) Zb)
 ·refine nw ?_
  refine AWP.seq ?_
  obtain ⟨ZCx, hF⟩ := Zy hF
  refine ns ?_
  refine And.intro ZCx ?_
  refine st ?_
  obtain rfl := Zg hF
  refine ns ?_
  refine Exists.intro [] ?_
  refine st ?_
  exact wx (WS.mk (tc Zc) Zb)

def ZbV (n : Int) : Option (ByteArray) :=
 Zan n (ByteArray.mk #[40]) 1
def ZbV.M (n : Int) (r : ByteArray) : Prop :=
 Zk Tryz.prog 128 [.c none (.v (.int .i64 n))] [] (fun d b => d = .c none (.v (.string r)) ∧ b = [])
theorem ZjR (n : Int) (r : ByteArray) (hF : ZbV n = some r) : ZbV.M n r := by
 unfold ZbV at hF
 unfold ZbV.M
 refine en Tryz.func128 ?_
 refine AWP.seq ?_
 refine ns ?_
 refine AWP.seq ?_
 refine ns ?_
 refine AWP.seq ?_
 refine AWP.seq ?_
 refine ns ?_
 refine AWP.block ?_
 refine AWP.loop ?_
 refine AWL.weak (rn []) ?_ (Zi1 n (ByteArray.mk #[40]) 1 _ hF)
 exact (WS.mk (tc (tc (tc Zc))) Zb)

def Za3 (s : ByteArray) (n_3 : Nat) : Option (Int) :=
 if (decide (((n_3 : Nat) : Int) ≤ 7)) = true then
 ZbV ((n_3 : Nat) : Int) >>= fun r10 =>
 if (s.toList == r10.toList) = true then
 some ((n_3 : Nat) : Int)
 else
 ZK (n_3 + 1 ≤ 9223372036854775807) >>= fun _ =>
 Za3 s (n_3 + 1)
 else
 some 0
 partial_fixpoint
def Za3.M (s : ByteArray) (n_3 : Nat) (r : Int) : Prop :=
 AWL Tryz.prog 13 (Code.sub (Zq Tryz.f107) [1, 0, 1, 0, 0]) (Code.cont Tryz.prog 13 (Zq Tryz.f107) [1, 0, 1, 0] (ZbS tab Tryz.f107.results (ZbX (.c none (.v (.int .i64 r))) []))) ⟨[(0, .c none (.v (.string s))), (3, .c none (.v (.int .i64 ((n_3 : Nat) : Int))))], []⟩
theorem ZkQ (s : ByteArray) (n_3 : Nat) : ∀ r, Za3 s n_3 = some r → Za3.M s n_3 r := by
 refine Za3.partial_correctness s (fun n_3 r => Za3.M s n_3 r) ?_ n_3
 intro lazycref04_Arity_l1' ZgJ n_3 r hF
 have Zkh := fun (_s : ByteArray) (n_3 : Nat) => ZgJ n_3
 clear ZgJ
 unfold Za3.M
 refine AWL.step ?_
 refine AWP.seq ?_
 refine AWP.seq ?_
 refine ns ?_
 refine nw ?_
 refine Zj hF (fun hc9 hF => ?_) (fun hc9 hF => ?_)
 ·refine nw ?_
  refine AWP.seq ?_
  refine AWP.block ?_
  refine AWP.seq ?_
  obtain ⟨r10, Zvq, hF⟩ := bind_some hF
  refine ns ?_
  refine e3 ?_
  refine st ?_
  refine cm (Zk.weak (rn []) (ZjR ((n_3 : Nat) : Int) _ Zvq) rfl (WS.mk (tc Zc) Zb)) ?_
  refine st ?_
  refine nw ?_
  refine Zj hF (fun Zct hF => ?_) (fun Zct hF => ?_)
  ·refine AWP.seq ?_
   refine ns ?_
   obtain rfl := Zg hF
   refine ns ?_
   refine Exists.intro [] ?_
   refine st ?_
   exact wx (WS.mk (tc Zc) Zb)
  ·refine nw ?_
   obtain ⟨ZCx, hF⟩ := Zy hF
   refine ns ?_
   refine AWL.weak (rn []) ?_ (Zkh s (n_3 + 1) _ hF)
   exact (WS.mk (tc (Zd (Zs (Zdd (Zc8 ZCx))) Zc)) Zb)
 ·refine nw ?_
  refine AWP.seq ?_
  refine ns ?_
  obtain rfl := Zg hF
  refine ns ?_
  refine Exists.intro [] ?_
  refine st ?_
  exact wx (WS.mk (tc Zc) Zb)

def Zdl (s : ByteArray) : Option (Int) :=
 Za3 s 2
def Zdl.M (s : ByteArray) (r : Int) : Prop :=
 Zk Tryz.prog 107 [.c none (.v (.string s))] [] (fun d b => d = .c none (.v (.int .i64 r)) ∧ b = [])
theorem ZmC (s : ByteArray) (r : Int) (hF : Zdl s = some r) : Zdl.M s r := by
 unfold Zdl at hF
 unfold Zdl.M
 refine en Tryz.func107 ?_
 refine AWP.seq ?_
 refine ns ?_
 refine AWP.seq ?_
 refine AWP.seq ?_
 refine ns ?_
 refine AWP.block ?_
 refine AWP.loop ?_
 refine AWL.weak (rn []) ?_ (ZkQ s 2 _ hF)
 exact (WS.mk (tc (tc Zc)) Zb)

def Za6 (b_3 : ByteArray) : Option (Bool) :=
 Zbe b_3 >>= fun r5 =>
 some ((r5 == 2) || (r5 == 4))
def Za6.M (b_3 : ByteArray) (r : Bool) : Prop :=
 AWP Tryz.prog 34 (Code.sub (Zq Tryz.f106) [1, 1, 1, 1, 1]) (Code.cont Tryz.prog 34 (Zq Tryz.f106) [1, 1, 1, 1, 1] (ZbS tab Tryz.f106.results (ZbX (.c none (.v (.bool r))) []))) ⟨[(3, .c none (.v (.string b_3)))], []⟩
theorem ZfT (b_3 : ByteArray) (r : Bool) (hF : Za6 b_3 = some r) : Za6.M b_3 r := by
 unfold Za6 at hF
 unfold Za6.M
 refine AWP.seq ?_
 obtain ⟨r5, hr5, hF⟩ := bind_some hF
 refine ns ?_
 refine e3 ?_
 refine st ?_
 refine cm (Zk.weak (rn []) (Zdy b_3 _ hr5) rfl (WS.mk (tc Zc) Zb)) ?_
 refine st ?_
 refine AWP.seq ?_
 refine AWP.cutN (fun T => ∃ r, WS r T ⟨[(2, .c none (.v (.bool ((r5 == 2) || (r5 == 4)))))], []⟩) ?_ (fun T hw => ?_)
 ·refine ns ?_
  refine Zl false (fun hc6 => ?_) (fun hc6 => ?_)
  ·(conv => whnf)
   refine st ?_
   exact wx (WS.mk (Zd (Zs (web hc6)) Zc) Zb)
  ·(conv => whnf)
   refine st ?_
   exact wx (WS.mk (Zd (Zs (web hc6)) Zc) Zb)
 obtain ⟨r0, hw⟩ := hw
 (conv => whnf)
 refine AWP.weak r0 hw ?_
 obtain rfl := Zg hF
 refine ns ?_
 refine Exists.intro [] ?_
 refine st ?_
 exact wx (WS.mk (tc Zc) Zb)

def Za7 (b_3 : ByteArray) : Option (Bool) :=
 Zcz b_3 >>= fun r3 =>
 if r3.2.2 = true then
 Za6 r3.2.1
 else
 Za6 b_3
def Za7.M (b_3 : ByteArray) (r : Bool) : Prop :=
 AWP Tryz.prog 34 (Code.sub (Zq Tryz.f106) [1, 1, 1]) (Code.cont Tryz.prog 34 (Zq Tryz.f106) [1, 1, 1] (ZbS tab Tryz.f106.results (ZbX (.c none (.v (.bool r))) []))) ⟨[(3, .c none (.v (.string b_3)))], []⟩
theorem ZfS (b_3 : ByteArray) (r : Bool) (hF : Za7 b_3 = some r) : Za7.M b_3 r := by
 unfold Za7 at hF
 unfold Za7.M
 refine AWP.seq ?_
 obtain ⟨r3, hr3, hF⟩ := bind_some hF
 refine ns ?_
 refine e3 ?_
 refine st ?_
 refine cm (Zk.weak (rn []) (Zii b_3 _ hr3) rfl (WS.mk (tc Zc) Zb)) ?_
 refine st ?_
 refine AWP.seq ?_
 refine AWP.seq ?_
 refine ns ?_
 refine nw ?_
 refine Zj hF (fun hc7 hF => ?_) (fun hc7 hF => ?_)
 ·refine ns ?_
  refine AWP.weak (rn []) ?_ (ZfT r3.2.1 _ hF)
  exact (WS.mk (tc Zc) Zb)
 ·refine nw ?_
  refine AWP.weak (rn []) ?_ (ZfT b_3 _ hF)
  exact (WS.mk (tc Zc) Zb)

def Zcc (s : ByteArray) : Option (Bool) :=
 Zcv s >>= fun r1 =>
 if (!r1.2.2) = true then
 Za7 s
 else
 Za7 r1.1
def Zcc.M (s : ByteArray) (r : Bool) : Prop :=
 Zk Tryz.prog 106 [.c none (.v (.string s))] [] (fun d b => d = .c none (.v (.bool r)) ∧ b = [])
theorem ZkI (s : ByteArray) (r : Bool) (hF : Zcc s = some r) : Zcc.M s r := by
 unfold Zcc at hF
 unfold Zcc.M
 refine en Tryz.func106 ?_
 refine AWP.seq ?_
 refine ns ?_
 refine AWP.seq ?_
 obtain ⟨r1, hr1, hF⟩ := bind_some hF
 refine ns ?_
 refine e3 ?_
 refine st ?_
 refine cm (Zk.weak (rn []) (Zgw s _ hr1) rfl (WS.mk (tc Zc) Zb)) ?_
 refine st ?_
 refine AWP.seq ?_
 refine AWP.seq ?_
 refine ns ?_
 refine nw ?_
 refine Zj hF (fun hc8 hF => ?_) (fun hc8 hF => ?_)
 ·refine ns ?_
  refine AWP.weak (rn []) ?_ (ZfS s _ hF)
  exact (WS.mk (tc Zc) Zb)
 ·refine nw ?_
  refine AWP.weak (rn []) ?_ (ZfS r1.1 _ hF)
  exact (WS.mk (tc Zc) Zb)

def Zcq (s : ByteArray) : Option (Bool) :=
 Zcc s >>= fun r1 =>
 (if (((r1 || (s.toList == (ByteArray.mk #[45, 62]).toList)) || (s.toList == (ByteArray.mk #[91, 93]).toList)) || (s.toList == (ByteArray.mk #[40, 41]).toList)) = true then some true else Zdl s >>= fun r2 =>
 some (decide (r2 > 0))) >>= fun c3 =>
 some c3
def Zcq.M (s : ByteArray) (r : Bool) : Prop :=
 Zk Tryz.prog 81 [.c none (.v (.string s))] [] (fun d b => d = .c none (.v (.bool r)) ∧ b = [])
theorem Zll (s : ByteArray) (r : Bool) (hF : Zcq s = some r) : Zcq.M s r := by
 unfold Zcq at hF
 unfold Zcq.M
 refine en Tryz.func81 ?_
 refine AWP.seq ?_
 refine ns ?_
 refine AWP.seq ?_
 obtain ⟨r1, hr1, hF⟩ := bind_some hF
 obtain ⟨c3, hc3, hF⟩ := bind_some hF
 refine AWP.cutN (fun T => ∃ r, WS r T ⟨[(2, .c none (.v (.bool c3)))], []⟩) ?_ (fun T hw => ?_)
 ·refine ns ?_
  refine e3 ?_
  refine st ?_
  refine cm (Zk.weak (rn []) (ZkI s _ hr1) rfl (WS.mk (tc Zc) Zb)) ?_
  refine st ?_
  refine Zl false (fun hc4 => ?_) (fun hc4 => ?_)
  ·(conv => whnf)
   have hc3 := ift hc4 hc3
   obtain rfl := Zg hc3
   refine st ?_
   exact wx (WS.mk (Zd (Zs (web hc4)) Zc) Zb)
  ·(conv => whnf)
   refine st ?_
   refine Zl false (fun hc5 => ?_) (fun hc5 => ?_)
   ·(conv => whnf)
    have hc3 := ift (And.intro hc4 hc5) hc3
    obtain rfl := Zg hc3
    refine st ?_
    exact wx (WS.mk (Zd (Zs (web (And.intro hc4 hc5))) Zc) Zb)
   ·(conv => whnf)
    refine st ?_
    refine Zl false (fun hc6 => ?_) (fun hc6 => ?_)
    ·(conv => whnf)
     have hc3 := ift (And.intro hc4 (And.intro hc5 hc6)) hc3
     obtain rfl := Zg hc3
     refine st ?_
     exact wx (WS.mk (Zd (Zs (web (And.intro hc4 (And.intro hc5 hc6)))) Zc) Zb)
    ·(conv => whnf)
     refine st ?_
     refine Zl false (fun hc7 => ?_) (fun hc7 => ?_)
     ·have hc3 := ift (And.intro hc4 (And.intro hc5 (And.intro hc6 hc7))) hc3
      (conv => whnf)
      obtain rfl := Zg hc3
      refine st ?_
      exact wx (WS.mk (Zd (Zs (web (And.intro hc4 (And.intro hc5 (And.intro hc6 hc7))))) Zc) Zb)
     ·have hc3 := ife (And.intro hc4 (And.intro hc5 (And.intro hc6 hc7))) hc3
      obtain ⟨r2, hr2, hc3⟩ := bind_some hc3
      (conv => whnf)
      refine st ?_
      refine e3 ?_
      refine st ?_
      refine cm (Zk.weak (rn []) (ZmC s _ hr2) rfl (WS.mk (tc Zc) Zb)) ?_
      refine st ?_
      obtain rfl := Zg hc3
      refine st ?_
      exact wx (WS.mk (Zd (Zs (web (And.intro hc4 (And.intro hc5 (And.intro hc6 hc7))))) Zc) Zb)
 obtain ⟨r0, hw⟩ := hw
 (conv => whnf)
 refine AWP.weak r0 hw ?_
 obtain rfl := Zg hF
 refine ns ?_
 refine Exists.intro [] ?_
 refine st ?_
 exact wx (WS.mk (tc Zc) Zb)

def Zbi (s : ByteArray) : Option (Bool) :=
 Zcv s >>= fun r1 =>
 if r1.2.2 = true then
 Zbe r1.1 >>= fun r5 =>
 some (r5 == 1)
 else
 Zbe s >>= fun r6 =>
 some ((r6 == 1) && (!(s.toList == (ByteArray.mk #[102, 111, 114, 97, 108, 108]).toList)))
def Zbi.M (s : ByteArray) (r : Bool) : Prop :=
 Zk Tryz.prog 37 [.c none (.v (.string s))] [] (fun d b => d = .c none (.v (.bool r)) ∧ b = [])
theorem Zfa (s : ByteArray) (r : Bool) (hF : Zbi s = some r) : Zbi.M s r := by
 unfold Zbi at hF
 unfold Zbi.M
 refine en Tryz.func37 ?_
 refine AWP.seq ?_
 refine ns ?_
 refine AWP.seq ?_
 obtain ⟨r1, hr1, hF⟩ := bind_some hF
 refine ns ?_
 refine e3 ?_
 refine st ?_
 refine cm (Zk.weak (rn []) (Zgw s _ hr1) rfl (WS.mk (tc Zc) Zb)) ?_
 refine st ?_
 refine AWP.seq ?_
 refine AWP.seq ?_
 refine ns ?_
 refine nw ?_
 refine Zj hF (fun hc4 hF => ?_) (fun hc4 hF => ?_)
 ·refine AWP.seq ?_
  obtain ⟨r5, hr5, hF⟩ := bind_some hF
  refine ns ?_
  refine e3 ?_
  refine st ?_
  refine cm (Zk.weak (rn []) (Zdy r1.1 _ hr5) rfl (WS.mk (tc Zc) Zb)) ?_
  refine st ?_
  obtain rfl := Zg hF
  refine ns ?_
  refine Exists.intro [] ?_
  refine st ?_
  exact wx (WS.mk (tc Zc) Zb)
 ·refine nw ?_
  refine AWP.seq ?_
  obtain ⟨r6, hr6, hF⟩ := bind_some hF
  refine AWP.cutN (fun T => ∃ r, WS r T ⟨[(2, .c none (.v (.bool ((r6 == 1) && (!(s.toList == (ByteArray.mk #[102, 111, 114, 97, 108, 108]).toList))))))], []⟩) ?_ (fun T hw => ?_)
  ·refine ns ?_
   refine e3 ?_
   refine st ?_
   refine cm (Zk.weak (rn []) (Zdy s _ hr6) rfl (WS.mk (tc Zc) Zb)) ?_
   refine st ?_
   refine Zl true (fun hc7 => ?_) (fun hc7 => ?_)
   ·(conv => whnf)
    refine st ?_
    exact wx (WS.mk (Zd (Zs (web hc7)) Zc) Zb)
   ·(conv => whnf)
    refine st ?_
    exact wx (WS.mk (Zd (Zs (web hc7)) Zc) Zb)
  obtain ⟨r0, hw⟩ := hw
  (conv => whnf)
  refine AWP.weak r0 hw ?_
  obtain rfl := Zg hF
  refine ns ?_
  refine Exists.intro [] ?_
  refine st ?_
  exact wx (WS.mk (tc Zc) Zb)

mutual
def ZaE (t : Za) : Option (Bool) :=
 Zbc 0 t t.fKids
 partial_fixpoint
def Zbc (i_3 : Nat) (t : Za) (Zgr : (List Za)) : Option (Bool) :=
 (match Zgr with
 | x39 :: ZvK =>
 ZaE x39 >>= fun r42 =>
 if (!r42) = true then
 some false
 else
 Zbc (i_3 + 1) t ZvK
 | [] =>
 if (t.fOp == 1) = true then
 Zbi t.fName >>= fun r46 =>
 some ((r46 && (((t.fBound.fArgs.length : Nat) : Int) == 0)) && (((t.fKids.length : Nat) : Int) == 0))
 else
 if (t.fOp == 2) = true then
 Zcq t.fName >>= fun r51 =>
 some ((r51 && (((t.fBound.fArgs.length : Nat) : Int) == 0)) && (((t.fKids.length : Nat) : Int) == 0))
 else
 if (t.fOp == 3) = true then
 some (((t.fName.toList == (ByteArray.mk #[]).toList) && (((t.fBound.fArgs.length : Nat) : Int) == 0)) && (((t.fKids.length : Nat) : Int) == 2))
 else
 if (t.fOp == 4) = true then
 Zbi t.fName >>= fun r60 =>
 some (r60 && (((t.fKids.length : Nat) : Int) == 1))
 else
 some false)
 partial_fixpoint
end
def ZaE.M (t : Za) (r : Bool) : Prop :=
 Zk Tryz.prog 56 [.agg [.v (.int .i64 t.fOp), .v (.string t.fName), .sl (t.fBound.fArgs.map Zi.cells), .sl (t.fKids.map Za.cells)]] [] (fun d b => d = .c none (.v (.bool r)) ∧ b = [])
def Zbc.M (i_3 : Nat) (t : Za) (Zgr : (List Za)) (r : Bool) : Prop :=
 ∀ Zin : List Za, t.fKids = Zin ++ Zgr → i_3 = Zin.length → AWL Tryz.prog 79 (Code.sub (Zq Tryz.f56) [1, 0, 1, 0, 0]) (Code.cont Tryz.prog 79 (Zq Tryz.f56) [1, 0, 1, 0] (ZbS tab Tryz.f56.results (ZbX (.c none (.v (.bool r))) []))) ⟨[(1, .ptr 1 0), (3, .c none (.v (.int .i64 ((i_3 : Nat) : Int))))], [(1, [(none, .v (.int .i64 t.fOp)), (none, .v (.string t.fName)), (none, .sl (t.fBound.fArgs.map Zi.cells)), (none, .sl (t.fKids.map Za.cells))])]⟩
theorem Zli : (∀ (t : Za), ∀ r, ZaE t = some r → ZaE.M t r) ∧ (∀ (i_3 : Nat) (t : Za) (Zgr : (List Za)), ∀ r, Zbc i_3 t Zgr = some r → Zbc.M i_3 t Zgr r) := by
 refine ZaE.mutual_partial_correctness ZaE.M Zbc.M ?_ ?_
 ·intro lazycref04_formed_l1' Zez t r hF
  unfold ZaE.M
  refine en Tryz.func56 ?_
  refine AWP.seq ?_
  refine ns ?_
  refine AWP.seq ?_
  refine AWP.seq ?_
  refine ns ?_
  refine AWP.block ?_
  refine AWP.loop ?_
  refine AWL.weak (rn []) ?_ (Zez 0 t t.fKids _ hF ([]) rfl rfl)
  exact (WS.mk (tp (tc Zc)) (Zf rfl (cc (cc (cc (cc Zh)))) Zb))
 ·intro lazycref04_formed' lazycref04_formed_l1' ZlX Zez i_3 t Zgr r hF
  unfold Zbc.M
  intro Zin ZqX Zqd
  refine AWL.step ?_
  refine AWP.seq ?_
  refine AWP.seq ?_
  refine ns ?_
  intro hlen38
  (try rw [List.length_map] at hlen38)
  (try rw [List.length_map])
  refine st ?_
  refine nw ?_
  refine ZS ZqX Zqd (fun x39 ZvK Zvv ZA5 ZBY => ?_) (fun Zvv => ?_)
  ·subst Zvv
   refine nw ?_
   refine AWP.seq ?_
   refine AWP.block ?_
   refine AWP.seq ?_
   obtain ⟨r42, ZD6, hF⟩ := bind_some hF
   refine nn ?_
   refine sr (Zau (f := Za.cells) (Za.cells_eq x39) ZA5) ?_
   refine st ?_
   refine e3 ?_
   refine st ?_
   refine cm (Zk.weak (rn []) (ZlX x39 _ ZD6) rfl (WS.mk (Zd (Zt (lc (lc (lc (lc Zo))))) Zc) Zb)) ?_
   refine st ?_
   refine nw ?_
   refine Zj hF (fun ZCT hF => ?_) (fun ZCT hF => ?_)
   ·refine AWP.seq ?_
    refine ns ?_
    obtain rfl := Zg hF
    refine ns ?_
    refine Exists.intro [] ?_
    refine st ?_
    exact wx (WS.mk (tc Zc) Zb)
   ·refine nw ?_
    refine ns ?_
    refine AWL.weak (rn []) ?_ (Zez (i_3 + 1) t ZvK _ hF (Zin ++ [x39]) (by rw [ZqX]; simp) (by rw [Zqd]; simp))
    exact (WS.mk (tp (Zd (Zs (Zdd (ZZ hlen38 ZBY))) Zc)) (Zf rfl (cc (cc (cc (cc Zh)))) Zb))
  ·subst Zvv
   refine nw ?_
   refine AWP.seq ?_
   refine ns ?_
   intro hlen44
   (try rw [List.length_map] at hlen44)
   (try rw [List.length_map])
   refine st ?_
   refine AWP.seq ?_
   refine AWP.seq ?_
   refine ns ?_
   refine AWP.block ?_
   refine AWP.seq ?_
   refine ns ?_
   refine nw ?_
   refine Zj hF (fun ZCh hF => ?_) (fun ZCh hF => ?_)
   ·refine AWP.seq ?_
    obtain ⟨r46, ZG1, hF⟩ := bind_some hF
    refine AWP.cutN (fun T => ∃ r, WS r T ⟨[(2, .c none (.v (.bool ((r46 && (((t.fBound.fArgs.length : Nat) : Int) == 0)) && (((t.fKids.length : Nat) : Int) == 0)))))], []⟩) ?_ (fun T hw => ?_)
    ·refine ns ?_
     refine e3 ?_
     refine st ?_
     refine cm (Zk.weak (rn []) (Zfa t.fName _ ZG1) rfl (WS.mk (tc Zc) Zb)) ?_
     refine st ?_
     refine Zl true (fun ZmN => ?_) (fun ZmN => ?_)
     ·(conv => whnf)
      refine st ?_
      refine Zl true (fun ZDy => ?_) (fun ZDy => ?_)
      ·(conv => whnf)
       refine st ?_
       intro hlen47
       (try rw [List.length_map] at hlen47)
       (try rw [List.length_map])
       refine st ?_
       exact wx (WS.mk (Zd (Zs (web (And.intro ZmN ZDy))) Zc) Zb)
      ·(conv => whnf)
       refine st ?_
       exact wx (WS.mk (Zd (Zs (web (And.intro ZmN ZDy))) Zc) Zb)
     ·(conv => whnf)
      refine st ?_
      exact wx (WS.mk (Zd (Zs (web ZmN)) Zc) Zb)
    obtain ⟨r0, hw⟩ := hw
    (conv => whnf)
    refine AWP.weak r0 hw ?_
    obtain rfl := Zg hF
    refine ns ?_
    refine Exists.intro [] ?_
    refine st ?_
    exact wx (WS.mk (tc Zc) Zb)
   ·refine AWP.seq ?_
    refine ns ?_
    refine nw ?_
    refine Zj hF (fun Zfk hF => ?_) (fun Zfk hF => ?_)
    ·refine AWP.seq ?_
     obtain ⟨r51, ZG7, hF⟩ := bind_some hF
     refine AWP.cutN (fun T => ∃ r, WS r T ⟨[(2, .c none (.v (.bool ((r51 && (((t.fBound.fArgs.length : Nat) : Int) == 0)) && (((t.fKids.length : Nat) : Int) == 0)))))], []⟩) ?_ (fun T hw => ?_)
     ·refine ns ?_
      refine e3 ?_
      refine st ?_
      refine cm (Zk.weak (rn []) (Zll t.fName _ ZG7) rfl (WS.mk (tc Zc) Zb)) ?_
      refine st ?_
      refine Zl true (fun ZjO => ?_) (fun ZjO => ?_)
      ·(conv => whnf)
       refine st ?_
       refine Zl true (fun ZeN => ?_) (fun ZeN => ?_)
       ·(conv => whnf)
        refine st ?_
        intro hlen52
        (try rw [List.length_map] at hlen52)
        (try rw [List.length_map])
        refine st ?_
        exact wx (WS.mk (Zd (Zs (web (And.intro ZjO ZeN))) Zc) Zb)
       ·(conv => whnf)
        refine st ?_
        exact wx (WS.mk (Zd (Zs (web (And.intro ZjO ZeN))) Zc) Zb)
      ·(conv => whnf)
       refine st ?_
       exact wx (WS.mk (Zd (Zs (web ZjO)) Zc) Zb)
     obtain ⟨r0, hw⟩ := hw
     (conv => whnf)
     refine AWP.weak r0 hw ?_
     obtain rfl := Zg hF
     refine ns ?_
     refine Exists.intro [] ?_
     refine st ?_
     exact wx (WS.mk (tc Zc) Zb)
    ·refine AWP.seq ?_
     refine ns ?_
     refine nw ?_
     refine Zj hF (fun ZoZ hF => ?_) (fun ZoZ hF => ?_)
     ·refine AWP.seq ?_
      refine AWP.cutN (fun T => ∃ r, WS r T ⟨[(2, .c none (.v (.bool (((t.fName.toList == (ByteArray.mk #[]).toList) && (((t.fBound.fArgs.length : Nat) : Int) == 0)) && (((t.fKids.length : Nat) : Int) == 2)))))], []⟩) ?_ (fun T hw => ?_)
      ·refine ns ?_
       refine Zl true (fun Zia => ?_) (fun Zia => ?_)
       ·(conv => whnf)
        refine st ?_
        refine Zl true (fun Znm => ?_) (fun Znm => ?_)
        ·(conv => whnf)
         refine st ?_
         intro hlen56
         (try rw [List.length_map] at hlen56)
         (try rw [List.length_map])
         refine st ?_
         exact wx (WS.mk (Zd (Zs (web (And.intro Zia Znm))) Zc) Zb)
        ·(conv => whnf)
         refine st ?_
         exact wx (WS.mk (Zd (Zs (web (And.intro Zia Znm))) Zc) Zb)
       ·(conv => whnf)
        refine st ?_
        exact wx (WS.mk (Zd (Zs (web Zia)) Zc) Zb)
      obtain ⟨r0, hw⟩ := hw
      (conv => whnf)
      refine AWP.weak r0 hw ?_
      obtain rfl := Zg hF
      refine ns ?_
      refine Exists.intro [] ?_
      refine st ?_
      exact wx (WS.mk (tc Zc) Zb)
     ·refine AWP.seq ?_
      refine ns ?_
      refine nw ?_
      refine Zj hF (fun Zv0 hF => ?_) (fun Zv0 hF => ?_)
      ·refine AWP.seq ?_
       obtain ⟨r60, ZD9, hF⟩ := bind_some hF
       refine AWP.cutN (fun T => ∃ r, WS r T ⟨[(2, .c none (.v (.bool (r60 && (((t.fKids.length : Nat) : Int) == 1)))))], []⟩) ?_ (fun T hw => ?_)
       ·refine ns ?_
        refine e3 ?_
        refine st ?_
        refine cm (Zk.weak (rn []) (Zfa t.fName _ ZD9) rfl (WS.mk (tc Zc) Zb)) ?_
        refine st ?_
        refine Zl true (fun Zt7 => ?_) (fun Zt7 => ?_)
        ·(conv => whnf)
         refine st ?_
         intro hlen61
         (try rw [List.length_map] at hlen61)
         (try rw [List.length_map])
         refine st ?_
         exact wx (WS.mk (Zd (Zs (web Zt7)) Zc) Zb)
        ·(conv => whnf)
         refine st ?_
         exact wx (WS.mk (Zd (Zs (web Zt7)) Zc) Zb)
       obtain ⟨r0, hw⟩ := hw
       (conv => whnf)
       refine AWP.weak r0 hw ?_
       obtain rfl := Zg hF
       refine ns ?_
       refine Exists.intro [] ?_
       refine st ?_
       exact wx (WS.mk (tc Zc) Zb)
      ·refine nw ?_
       refine AWP.seq ?_
       refine ns ?_
       obtain rfl := Zg hF
       refine ns ?_
       refine Exists.intro [] ?_
       refine st ?_
       exact wx (WS.mk (tc Zc) Zb)
theorem Zlv : ∀ (t : Za), ∀ r, ZaE t = some r → ZaE.M t r := Zli.1

mutual
def Zae (k : Zi) : Option (Int) :=
 ZaA 0 0 k k.fArgs
 partial_fixpoint
def ZaA (n_3 : Int) (i_4 : Nat) (k : Zi) (Zaz : (List Zi)) : Option (Int) :=
 (match Zaz with
 | x16 :: Zib =>
 Zae x16 >>= fun r19 =>
 ZaA (if r19 > n_3 then r19 else n_3) (i_4 + 1) k Zib
 | [] =>
 some (IntKind.i64.wrap (n_3 + 1)))
 partial_fixpoint
end
def Zae.M (k : Zi) (r : Int) : Prop :=
 Zk Tryz.prog 83 [.agg [.sl (k.fArgs.map Zi.cells)]] [] (fun d b => d = .c none (.v (.int .i64 r)) ∧ b = [])
def ZaA.M (n_3 : Int) (i_4 : Nat) (k : Zi) (Zaz : (List Zi)) (r : Int) : Prop :=
 ∀ Zci : List Zi, k.fArgs = Zci ++ Zaz → i_4 = Zci.length → AWL Tryz.prog 22 (Code.sub (Zq Tryz.f83) [1, 1, 0, 1, 0, 0]) (Code.cont Tryz.prog 22 (Zq Tryz.f83) [1, 1, 0, 1, 0] (ZbS tab Tryz.f83.results (ZbX (.c none (.v (.int .i64 r))) []))) ⟨[(1, .ptr 1 0), (3, .c none (.v (.int .i64 n_3))), (4, .c none (.v (.int .i64 ((i_4 : Nat) : Int))))], [(1, [(none, .sl (k.fArgs.map Zi.cells))])]⟩
theorem Zjx : (∀ (k : Zi), ∀ r, Zae k = some r → Zae.M k r) ∧ (∀ (n_3 : Int) (i_4 : Nat) (k : Zi) (Zaz : (List Zi)), ∀ r, ZaA n_3 i_4 k Zaz = some r → ZaA.M n_3 i_4 k Zaz r) := by
 refine Zae.mutual_partial_correctness Zae.M ZaA.M ?_ ?_
 ·intro lazycref04_KindDepth_l1' Zd2 k r hF
  unfold Zae.M
  refine en Tryz.func83 ?_
  refine AWP.seq ?_
  refine ns ?_
  refine AWP.seq ?_
  refine ns ?_
  refine AWP.seq ?_
  refine AWP.seq ?_
  refine ns ?_
  refine AWP.block ?_
  refine AWP.loop ?_
  refine AWL.weak (rn []) ?_ (Zd2 0 0 k k.fArgs _ hF ([]) rfl rfl)
  exact (WS.mk (tp (tc (tc Zc))) (Zf rfl (cc Zh) Zb))
 ·intro lazycref04_KindDepth' lazycref04_KindDepth_l1' Zj6 Zd2 n_3 i_4 k Zaz r hF
  unfold ZaA.M
  intro Zci Zfr Zft
  refine AWL.step ?_
  refine AWP.seq ?_
  refine AWP.seq ?_
  refine ns ?_
  intro hlen15
  (try rw [List.length_map] at hlen15)
  (try rw [List.length_map])
  refine st ?_
  refine nw ?_
  refine ZS Zfr Zft (fun x16 Zib ZiX Zqu Zrv => ?_) (fun ZiX => ?_)
  ·subst ZiX
   refine nw ?_
   refine AWP.seq ?_
   refine AWP.block ?_
   obtain ⟨r19, ZsL, hF⟩ := bind_some hF
   refine nn ?_
   refine sr (Zau (f := Zi.cells) (Zi.cells_eq x16) Zqu) ?_
   refine st ?_
   refine e3 ?_
   refine st ?_
   refine cm (Zk.weak (rn []) (Zj6 x16 _ ZsL) rfl (WS.mk (Zd (Zt (lc Zo)) Zc) Zb)) ?_
   refine st ?_
   refine ns ?_
   refine AWL.weak (rn []) ?_ (Zd2 (if r19 > n_3 then r19 else n_3) (i_4 + 1) k Zib _ hF (Zci ++ [x16]) (by rw [Zfr]; simp) (by rw [Zft]; simp))
   exact (WS.mk (tp (tc (Zd (Zs (Zdd (ZZ hlen15 Zrv))) Zc))) (Zf rfl (cc Zh) Zb))
  ·subst ZiX
   refine nw ?_
   refine AWP.seq ?_
   refine ns ?_
   obtain rfl := Zg hF
   refine ns ?_
   refine Exists.intro [] ?_
   refine st ?_
   exact wx (WS.mk (tc Zc) Zb)
theorem ZjW : ∀ (k : Zi), ∀ r, Zae k = some r → Zae.M k r := Zjx.1

mutual
def Zak (k : Zi) : Option (Int) :=
 ZaJ 1 0 k k.fArgs
 partial_fixpoint
def ZaJ (n_3 : Int) (i_4 : Nat) (k : Zi) (Zaz : (List Zi)) : Option (Int) :=
 (match Zaz with
 | x16 :: Zib =>
 Zak x16 >>= fun r19 =>
 ZaJ (IntKind.i64.wrap (n_3 + r19)) (i_4 + 1) k Zib
 | [] =>
 some n_3)
 partial_fixpoint
end
def Zak.M (k : Zi) (r : Int) : Prop :=
 Zk Tryz.prog 82 [.agg [.sl (k.fArgs.map Zi.cells)]] [] (fun d b => d = .c none (.v (.int .i64 r)) ∧ b = [])
def ZaJ.M (n_3 : Int) (i_4 : Nat) (k : Zi) (Zaz : (List Zi)) (r : Int) : Prop :=
 ∀ Zci : List Zi, k.fArgs = Zci ++ Zaz → i_4 = Zci.length → AWL Tryz.prog 21 (Code.sub (Zq Tryz.f82) [1, 1, 0, 1, 0, 0]) (Code.cont Tryz.prog 21 (Zq Tryz.f82) [1, 1, 0, 1, 0] (ZbS tab Tryz.f82.results (ZbX (.c none (.v (.int .i64 r))) []))) ⟨[(1, .ptr 1 0), (3, .c none (.v (.int .i64 n_3))), (4, .c none (.v (.int .i64 ((i_4 : Nat) : Int))))], [(1, [(none, .sl (k.fArgs.map Zi.cells))])]⟩
theorem ZjS : (∀ (k : Zi), ∀ r, Zak k = some r → Zak.M k r) ∧ (∀ (n_3 : Int) (i_4 : Nat) (k : Zi) (Zaz : (List Zi)), ∀ r, ZaJ n_3 i_4 k Zaz = some r → ZaJ.M n_3 i_4 k Zaz r) := by
 refine Zak.mutual_partial_correctness Zak.M ZaJ.M ?_ ?_
 ·intro lazycref04_KindSize_l1' Zed k r hF
  unfold Zak.M
  refine en Tryz.func82 ?_
  refine AWP.seq ?_
  refine ns ?_
  refine AWP.seq ?_
  refine ns ?_
  refine AWP.seq ?_
  refine AWP.seq ?_
  refine ns ?_
  refine AWP.block ?_
  refine AWP.loop ?_
  refine AWL.weak (rn []) ?_ (Zed 1 0 k k.fArgs _ hF ([]) rfl rfl)
  exact (WS.mk (tp (tc (tc Zc))) (Zf rfl (cc Zh) Zb))
 ·intro lazycref04_KindSize' lazycref04_KindSize_l1' ZkJ Zed n_3 i_4 k Zaz r hF
  unfold ZaJ.M
  intro Zci Zfr Zft
  refine AWL.step ?_
  refine AWP.seq ?_
  refine AWP.seq ?_
  refine ns ?_
  intro hlen15
  (try rw [List.length_map] at hlen15)
  (try rw [List.length_map])
  refine st ?_
  refine nw ?_
  refine ZS Zfr Zft (fun x16 Zib ZiX Zqu Zrv => ?_) (fun ZiX => ?_)
  ·subst ZiX
   refine nw ?_
   refine AWP.seq ?_
   refine AWP.block ?_
   obtain ⟨r19, ZsL, hF⟩ := bind_some hF
   refine nn ?_
   refine sr (Zau (f := Zi.cells) (Zi.cells_eq x16) Zqu) ?_
   refine st ?_
   refine e3 ?_
   refine st ?_
   refine cm (Zk.weak (rn []) (ZkJ x16 _ ZsL) rfl (WS.mk (Zd (Zt (lc Zo)) Zc) Zb)) ?_
   refine st ?_
   refine ns ?_
   refine AWL.weak (rn []) ?_ (Zed (IntKind.i64.wrap (n_3 + r19)) (i_4 + 1) k Zib _ hF (Zci ++ [x16]) (by rw [Zfr]; simp) (by rw [Zft]; simp))
   exact (WS.mk (tp (tc (Zd (Zs (Zdd (ZZ hlen15 Zrv))) Zc))) (Zf rfl (cc Zh) Zb))
  ·subst ZiX
   refine nw ?_
   refine AWP.seq ?_
   refine ns ?_
   obtain rfl := Zg hF
   refine ns ?_
   refine Exists.intro [] ?_
   refine st ?_
   exact wx (WS.mk (tc Zc) Zb)
theorem Zkq : ∀ (k : Zi), ∀ r, Zak k = some r → Zak.M k r := ZjS.1

mutual
def ZaP (t : Za) : Option (Int × Int) :=
 Zak t.fBound >>= fun r3 =>
 Zae t.fBound >>= fun r4 =>
 Zbp r3 r4 0 t t.fKids
 partial_fixpoint
def Zbp (Zdo : Int) (Zck : Int) (i_6 : Nat) (t : Za) (ZeJ : (List Za)) : Option (Int × Int) :=
 (match ZeJ with
 | x20 :: ZDp =>
 ZaP x20 >>= fun r23 =>
 Zbp (if r23.1 > Zdo then r23.1 else Zdo) (if r23.2 > Zck then r23.2 else Zck) (i_6 + 1) t ZDp
 | [] =>
 some (Zdo, Zck))
 partial_fixpoint
end
def ZaP.M (t : Za) (r : Int × Int) : Prop :=
 Zk Tryz.prog 57 [.agg [.v (.int .i64 t.fOp), .v (.string t.fName), .sl (t.fBound.fArgs.map Zi.cells), .sl (t.fKids.map Za.cells)]] [] (fun d b => d = .tup [.c (.v (.int .i64 r.1)), .c (.v (.int .i64 r.2))] ∧ b = [])
def Zbp.M (Zdo : Int) (Zck : Int) (i_6 : Nat) (t : Za) (ZeJ : (List Za)) (r : Int × Int) : Prop :=
 ∀ Zio : List Za, t.fKids = Zio ++ ZeJ → i_6 = Zio.length → AWL Tryz.prog 39 (Code.sub (Zq Tryz.f57) [1, 1, 0, 1, 0, 0]) (Code.cont Tryz.prog 39 (Zq Tryz.f57) [1, 1, 0, 1, 0] (ZbS tab Tryz.f57.results (ZbX (.tup [.c (.v (.int .i64 r.1)), .c (.v (.int .i64 r.2))]) []))) ⟨[(1, .ptr 1 0), (4, .c none (.v (.int .i64 Zdo))), (5, .c none (.v (.int .i64 Zck))), (6, .c none (.v (.int .i64 ((i_6 : Nat) : Int))))], [(1, [(none, .v (.int .i64 t.fOp)), (none, .v (.string t.fName)), (none, .sl (t.fBound.fArgs.map Zi.cells)), (none, .sl (t.fKids.map Za.cells))])]⟩
theorem Zl5 : (∀ (t : Za), ∀ r, ZaP t = some r → ZaP.M t r) ∧ (∀ (Zdo : Int) (Zck : Int) (i_6 : Nat) (t : Za) (ZeJ : (List Za)), ∀ r, Zbp Zdo Zck i_6 t ZeJ = some r → Zbp.M Zdo Zck i_6 t ZeJ r) := by
 refine ZaP.mutual_partial_correctness ZaP.M Zbp.M ?_ ?_
 ·intro lazycref04_kinds_l1' ZeZ t r hF
  unfold ZaP.M
  refine en Tryz.func57 ?_
  refine AWP.seq ?_
  refine ns ?_
  refine AWP.seq ?_
  obtain ⟨r3, hr3, hF⟩ := bind_some hF
  obtain ⟨r4, hr4, hF⟩ := bind_some hF
  refine nn ?_
  refine Or.inl (Or.inr (Exists.intro [3, 4] (Exists.intro [[12, 13], [13]] (Exists.intro [1] (Exists.intro [1, 12, 13] (Exists.intro [12, 13] (Exists.intro [0, 1, 2, 5, 6, 7] (And.intro (by decide +kernel) ?_))))))))
  refine dp ?_
  refine dp ?_
  refine st ?_
  refine e3 ?_
  refine st ?_
  refine cm (Zk.weak (rn []) (Zkq t.fBound _ hr3) rfl (WS.mk (Zd (Zt (lc Zo)) Zc) Zb)) ?_
  refine st ?_
  refine e3 ?_
  refine st ?_
  refine cm (Zk.weak (rn []) (ZjW t.fBound _ hr4) rfl (WS.mk (Zd (Zt (lc Zo)) Zc) Zb)) ?_
  refine st ?_
  refine AWP.seq ?_
  refine AWP.seq ?_
  refine ns ?_
  refine AWP.block ?_
  refine AWP.loop ?_
  refine AWL.weak (rn []) ?_ (ZeZ r3 r4 0 t t.fKids _ hF ([]) rfl rfl)
  exact (WS.mk (tp (tc (tc (tc Zc)))) (Zf rfl (cc (cc (cc (cc Zh)))) Zb))
 ·intro lazycref04_kinds' lazycref04_kinds_l1' ZmX ZeZ Zdo Zck i_6 t ZeJ r hF
  unfold Zbp.M
  intro Zio Zp7 Zry
  refine AWL.step ?_
  refine AWP.seq ?_
  refine AWP.seq ?_
  refine ns ?_
  intro hlen19
  (try rw [List.length_map] at hlen19)
  (try rw [List.length_map])
  refine st ?_
  refine nw ?_
  refine ZS Zp7 Zry (fun x20 ZDp ZCf ZHz ZHY => ?_) (fun ZCf => ?_)
  ·subst ZCf
   refine nw ?_
   refine AWP.seq ?_
   refine AWP.block ?_
   refine AWP.seq ?_
   obtain ⟨r23, Zy9, hF⟩ := bind_some hF
   refine nn ?_
   refine sr (Zau (f := Za.cells) (Za.cells_eq x20) ZHz) ?_
   refine st ?_
   refine e3 ?_
   refine st ?_
   refine cm (Zk.weak (rn []) (ZmX x20 _ Zy9) rfl (WS.mk (Zd (Zt (lc (lc (lc (lc Zo))))) Zc) Zb)) ?_
   refine st ?_
   refine AWP.seq ?_
   refine ns ?_
   refine ns ?_
   refine ns ?_
   refine AWL.weak (rn []) ?_ (ZeZ (if r23.1 > Zdo then r23.1 else Zdo) (if r23.2 > Zck then r23.2 else Zck) (i_6 + 1) t ZDp _ hF (Zio ++ [x20]) (by rw [Zp7]; simp) (by rw [Zry]; simp))
   exact (WS.mk (tp (tc (tc (Zd (Zs (Zdd (ZZ hlen19 ZHY))) Zc)))) (Zf rfl (cc (cc (cc (cc Zh)))) Zb))
  ·subst ZCf
   refine nw ?_
   refine AWP.seq ?_
   refine ns ?_
   obtain rfl := Zg hF
   refine ns ?_
   refine Exists.intro [] ?_
   refine st ?_
   exact wx (WS.mk (Zd (ZdE (Zc6 (WE.refl _) (Zc6 (WE.refl _) ZdF))) Zc) Zb)
theorem ZmR : ∀ (t : Za), ∀ r, ZaP t = some r → ZaP.M t r := Zl5.1

def Zag (t : Za) : Option (Int) :=
 ZaE t >>= fun r3 =>
 if (!r3) = true then
 some 1
 else
 ZaP t >>= fun r5 =>
 Zai t >>= fun r8 =>
 if ((decide (r8 > 20000)) || (decide (r5.1 > 20000))) = true then
 some 3
 else
 Zaf t >>= fun r11 =>
 if ((decide (r11 > 100)) || (decide (r5.2 > 100))) = true then
 some 4
 else
 some 0
def Zag.M (t : Za) (r : Int) : Prop :=
 Zk Tryz.prog 36 [.agg [.v (.int .i64 t.fOp), .v (.string t.fName), .sl (t.fBound.fArgs.map Zi.cells), .sl (t.fKids.map Za.cells)]] [] (fun d b => d = .c none (.v (.int .i64 r)) ∧ b = [])
theorem ZdH (t : Za) (r : Int) (hF : Zag t = some r) : Zag.M t r := by
 unfold Zag at hF
 unfold Zag.M
 refine en Tryz.func36 ?_
 refine AWP.seq ?_
 refine ns ?_
 refine AWP.seq ?_
 refine AWP.seq ?_
 obtain ⟨r3, hr3, hF⟩ := bind_some hF
 refine ns ?_
 refine e3 ?_
 refine st ?_
 refine cm (Zk.weak (rn []) (Zlv t _ hr3) rfl (WS.mk (Zd (Zt (lc (lc (lc (lc Zo))))) Zc) Zb)) ?_
 refine st ?_
 refine nw ?_
 refine Zj hF (fun hc4 hF => ?_) (fun hc4 hF => ?_)
 ·refine AWP.seq ?_
  refine ns ?_
  obtain rfl := Zg hF
  refine ns ?_
  refine Exists.intro [] ?_
  refine st ?_
  exact wx (WS.mk (tc Zc) Zb)
 ·refine nw ?_
  refine AWP.seq ?_
  obtain ⟨r5, hr5, hF⟩ := bind_some hF
  refine ns ?_
  refine e3 ?_
  refine st ?_
  refine cm (Zk.weak (rn []) (ZmR t _ hr5) rfl (WS.mk (Zd (Zt (lc (lc (lc (lc Zo))))) Zc) Zb)) ?_
  refine st ?_
  refine AWP.seq ?_
  refine AWP.seq ?_
  obtain ⟨r8, hr8, hF⟩ := bind_some hF
  refine AWP.cutN (fun T => ∃ r, WS r T ⟨[(1, .ptr 1 0), (4, .c none (.v (.int .i64 r5.2))), (19, .c none (.v (.bool ((decide (r8 > 20000)) || (decide (r5.1 > 20000))))))], [(1, [(none, .v (.int .i64 t.fOp)), (none, .v (.string t.fName)), (none, .sl (t.fBound.fArgs.map Zi.cells)), (none, .sl (t.fKids.map Za.cells))])]⟩) ?_ (fun T hw => ?_)
  ·refine ns ?_
   refine e3 ?_
   refine st ?_
   refine cm (Zk.weak (rn []) (Zgy t _ hr8) rfl (WS.mk (Zd (Zt (lc (lc (lc (lc Zo))))) Zc) Zb)) ?_
   refine st ?_
   refine Zl false (fun hc9 => ?_) (fun hc9 => ?_)
   ·(conv => whnf)
    refine st ?_
    exact wx (WS.mk (tp (tc (Zd (Zs (web hc9)) Zc))) (Zf rfl (cc (cc (cc (cc Zh)))) Zb))
   ·(conv => whnf)
    refine st ?_
    exact wx (WS.mk (tp (tc (Zd (Zs (web hc9)) Zc))) (Zf rfl (cc (cc (cc (cc Zh)))) Zb))
  obtain ⟨r0, hw⟩ := hw
  (conv => whnf)
  refine AWP.weak r0 hw ?_
  refine nw ?_
  refine Zj hF (fun ZeC hF => ?_) (fun ZeC hF => ?_)
  ·refine AWP.seq ?_
   refine ns ?_
   obtain rfl := Zg hF
   refine ns ?_
   refine Exists.intro [] ?_
   refine st ?_
   exact wx (WS.mk (tc Zc) Zb)
  ·refine nw ?_
   refine AWP.seq ?_
   refine AWP.seq ?_
   obtain ⟨r11, Zvo, hF⟩ := bind_some hF
   refine AWP.cutN (fun T => ∃ r, WS r T ⟨[(26, .c none (.v (.bool ((decide (r11 > 100)) || (decide (r5.2 > 100))))))], []⟩) ?_ (fun T hw => ?_)
   ·refine ns ?_
    refine e3 ?_
    refine st ?_
    refine cm (Zk.weak (rn []) (ZfY t _ Zvo) rfl (WS.mk (Zd (Zt (lc (lc (lc (lc Zo))))) Zc) Zb)) ?_
    refine st ?_
    refine Zl false (fun Zd9 => ?_) (fun Zd9 => ?_)
    ·(conv => whnf)
     refine st ?_
     exact wx (WS.mk (Zd (Zs (web Zd9)) Zc) Zb)
    ·(conv => whnf)
     refine st ?_
     exact wx (WS.mk (Zd (Zs (web Zd9)) Zc) Zb)
   obtain ⟨r0, hw⟩ := hw
   (conv => whnf)
   refine AWP.weak r0 hw ?_
   refine nw ?_
   refine Zj hF (fun Zcx hF => ?_) (fun Zcx hF => ?_)
   ·refine AWP.seq ?_
    refine ns ?_
    obtain rfl := Zg hF
    refine ns ?_
    refine Exists.intro [] ?_
    refine st ?_
    exact wx (WS.mk (tc Zc) Zb)
   ·refine nw ?_
    refine AWP.seq ?_
    refine ns ?_
    obtain rfl := Zg hF
    refine ns ?_
    refine Exists.intro [] ?_
    refine st ?_
    exact wx (WS.mk (tc Zc) Zb)

mutual
def ZaO (t : Za) : Option (Bool) :=
 (if (t.fOp == 4) = true then some true else ZY t.fKids >>= fun r1 =>
 some r1) >>= fun c2 =>
 some c2
 partial_fixpoint
def ZY (s : (List Za)) : Option (Bool) :=
 Z4 s >>= fun r1 =>
 some (decide (r1 ≥ 0))
 partial_fixpoint
def Z4 (s : (List Za)) : Option (Int) :=
 ZD s 0 s
 partial_fixpoint
def ZD (s : (List Za)) (x_8 : Nat) (ZbO : (List Za)) : Option (Int) :=
 (match ZbO with
 | x13 :: Zu3 =>
 ZaO x13 >>= fun r16 =>
 if r16 = true then
 some ((x_8 : Nat) : Int)
 else
 ZD s (x_8 + 1) Zu3
 | [] =>
 some (-1))
 partial_fixpoint
end
def ZaO.M (t : Za) (r : Bool) : Prop :=
 Zk Tryz.prog 51 [.agg [.v (.int .i64 t.fOp), .v (.string t.fName), .sl (t.fBound.fArgs.map Zi.cells), .sl (t.fKids.map Za.cells)]] [] (fun d b => d = .c none (.v (.bool r)) ∧ b = [])
def ZY.M (s : (List Za)) (r : Bool) : Prop :=
 Zk Tryz.prog 79 [.c none (.sl (s.map Za.cells)), .c none (.v (.func (.func 51) #[] #[]))] [] (fun d b => d = .c none (.v (.bool r)) ∧ b = [])
def Z4.M (s : (List Za)) (r : Int) : Prop :=
 Zk Tryz.prog 104 [.c none (.sl (s.map Za.cells)), .c none (.v (.func (.func 51) #[] #[]))] [] (fun d b => d = .c none (.v (.int .i64 r)) ∧ b = [])
def ZD.M (s : (List Za)) (x_8 : Nat) (ZbO : (List Za)) (r : Int) : Prop :=
 ∀ ZdO : List Za, s = ZdO ++ ZbO → x_8 = ZdO.length → s.length ≤ maxLen → AWL Tryz.prog 19 (Code.sub (Zq Tryz.f104) [1, 0, 1, 0, 0]) (Code.cont Tryz.prog 19 (Zq Tryz.f104) [1, 0, 1, 0] (ZbS tab Tryz.f104.results (ZbX (.c none (.v (.int .i64 r))) []))) ⟨[(0, .c none (.sl (s.map Za.cells))), (1, .c none (.v (.func (.func 51) #[] #[]))), (7, .c none (.v (.int .i64 ((s.length : Nat) : Int)))), (8, .c none (.v (.int .i64 ((x_8 : Nat) : Int))))], []⟩
theorem ZlV : (∀ (t : Za), ∀ r, ZaO t = some r → ZaO.M t r) ∧ (∀ (s : (List Za)), ∀ r, ZY s = some r → ZY.M s r) ∧ (∀ (s : (List Za)), ∀ r, Z4 s = some r → Z4.M s r) ∧ (∀ (s : (List Za)) (x_8 : Nat) (ZbO : (List Za)), ∀ r, ZD s x_8 ZbO = some r → ZD.M s x_8 ZbO r) := by
 refine ZaO.mutual_partial_correctness ZaO.M ZY.M Z4.M ZD.M ?_ ?_ ?_ ?_
 ·intro slices_ContainsFunc_Type_unify_quantified' ZeE t r hF
  unfold ZaO.M
  refine en Tryz.func51 ?_
  refine AWP.seq ?_
  refine ns ?_
  refine AWP.seq ?_
  obtain ⟨c2, hc2, hF⟩ := bind_some hF
  refine AWP.cutN (fun T => ∃ r, WS r T ⟨[(2, .c none (.v (.bool c2)))], []⟩) ?_ (fun T hw => ?_)
  ·refine ns ?_
   refine Zl false (fun hc3 => ?_) (fun hc3 => ?_)
   ·have hc2 := ift hc3 hc2
    (conv => whnf)
    obtain rfl := Zg hc2
    refine st ?_
    exact wx (WS.mk (Zd (Zs (web hc3)) Zc) Zb)
   ·have hc2 := ife hc3 hc2
    obtain ⟨r1, hr1, hc2⟩ := bind_some hc2
    (conv => whnf)
    refine st ?_
    refine e3 ?_
    refine st ?_
    refine cm (Zk.weak (rn []) (ZeE t.fKids _ hr1) rfl (WS.mk (tc (tc Zc)) Zb)) ?_
    refine st ?_
    obtain rfl := Zg hc2
    refine st ?_
    exact wx (WS.mk (Zd (Zs (web hc3)) Zc) Zb)
  obtain ⟨r0, hw⟩ := hw
  (conv => whnf)
  refine AWP.weak r0 hw ?_
  obtain rfl := Zg hF
  refine ns ?_
  refine Exists.intro [] ?_
  refine st ?_
  exact wx (WS.mk (tc Zc) Zb)
 ·intro slices_IndexFunc_Type_unify_quantified' Ze4 s r hF
  unfold ZY.M
  refine en Tryz.func79 ?_
  refine AWP.seq ?_
  refine ns ?_
  refine AWP.seq ?_
  obtain ⟨r1, hr1, hF⟩ := bind_some hF
  refine ns ?_
  refine e3 ?_
  refine st ?_
  refine cm (Zk.weak (rn []) (Ze4 s _ hr1) rfl (WS.mk (tc (tc Zc)) Zb)) ?_
  refine st ?_
  obtain rfl := Zg hF
  refine ns ?_
  refine Exists.intro [] ?_
  refine st ?_
  exact wx (WS.mk (tc Zc) Zb)
 ·intro slices_IndexFunc_Type_unify_quantified_l1' ZbN s r hF
  unfold Z4.M
  refine en Tryz.func104 ?_
  refine AWP.seq ?_
  refine ns ?_
  refine AWP.seq ?_
  refine AWP.seq ?_
  refine ns ?_
  intro hlen1
  (try rw [List.length_map] at hlen1)
  (try rw [List.length_map])
  refine st ?_
  refine AWP.block ?_
  refine AWP.loop ?_
  refine AWL.weak (rn []) ?_ (ZbN s 0 s _ hF ([]) rfl rfl hlen1)
  exact (WS.mk (tc (tc (tc (tc Zc)))) Zb)
 ·intro unify_quantified' slices_IndexFunc_Type_unify_quantified_l1' ZmO ZbN s x_8 ZbO r hF
  unfold ZD.M
  intro ZdO Zi0 ZiJ hlen1
  refine AWL.step ?_
  refine AWP.seq ?_
  refine ns ?_
  refine AWP.seq ?_
  refine nw ?_
  refine ZS Zi0 ZiJ (fun x13 Zu3 Zv1 ZAo ZDw => ?_) (fun Zv1 => ?_)
  ·subst Zv1
   refine nw ?_
   refine AWP.seq ?_
   refine AWP.block ?_
   refine AWP.seq ?_
   refine ns ?_
   refine AWP.seq ?_
   obtain ⟨r16, Zyt, hF⟩ := bind_some hF
   refine nn ?_
   refine sr (Zau (f := Za.cells) (Za.cells_eq x13) ZAo) ?_
   refine st ?_
   refine e3 ?_
   refine st ?_
   refine cm (Zk.weak (rn []) (ZmO x13 _ Zyt) rfl (WS.mk (Zd (Zt (lc (lc (lc (lc Zo))))) Zc) Zb)) ?_
   refine st ?_
   refine nw ?_
   refine Zj hF (fun Zfl hF => ?_) (fun Zfl hF => ?_)
   ·refine AWP.seq ?_
    refine ns ?_
    obtain rfl := Zg hF
    refine ns ?_
    refine Exists.intro [] ?_
    refine st ?_
    exact wx (WS.mk (tc Zc) Zb)
   ·refine nw ?_
    refine ns ?_
    refine AWL.weak (rn []) ?_ (ZbN s (x_8 + 1) Zu3 _ hF (ZdO ++ [x13]) (by rw [Zi0]; simp) (by rw [ZiJ]; simp) hlen1)
    exact (WS.mk (tc (tc (tc (Zd (Zs (Zdd (ZZ hlen1 ZDw))) Zc)))) Zb)
  ·subst Zv1
   refine nw ?_
   refine AWP.seq ?_
   refine ns ?_
   obtain rfl := Zg hF
   refine ns ?_
   refine Exists.intro [] ?_
   refine st ?_
   exact wx (WS.mk (tc Zc) Zb)
theorem ZmV : ∀ (t : Za), ∀ r, ZaO t = some r → ZaO.M t r := ZlV.1

def Zdp (t : Za) : Option (Bool) :=
 ZbT t >>= fun r1 =>
 (if (r1 == 0) = true then ZaO t >>= fun r2 =>
 some (!r2) else some false) >>= fun c3 =>
 some c3
def Zdp.M (t : Za) (r : Bool) : Prop :=
 Zk Tryz.prog 31 [.agg [.v (.int .i64 t.fOp), .v (.string t.fName), .sl (t.fBound.fArgs.map Zi.cells), .sl (t.fKids.map Za.cells)]] [] (fun d b => d = .c none (.v (.bool r)) ∧ b = [])
theorem Zk7 (t : Za) (r : Bool) (hF : Zdp t = some r) : Zdp.M t r := by
 unfold Zdp at hF
 unfold Zdp.M
 refine en Tryz.func31 ?_
 refine AWP.seq ?_
 refine ns ?_
 refine AWP.seq ?_
 obtain ⟨r1, hr1, hF⟩ := bind_some hF
 obtain ⟨c3, hc3, hF⟩ := bind_some hF
 refine AWP.cutN (fun T => ∃ r, WS r T ⟨[(2, .c none (.v (.bool c3)))], []⟩) ?_ (fun T hw => ?_)
 ·refine ns ?_
  refine e3 ?_
  refine st ?_
  refine cm (Zk.weak (rn []) (ZeF t _ hr1) rfl (WS.mk (Zd (Zt (lc (lc (lc (lc Zo))))) Zc) Zb)) ?_
  refine st ?_
  refine Zl true (fun hc4 => ?_) (fun hc4 => ?_)
  ·have hc3 := ift hc4 hc3
   obtain ⟨r2, hr2, hc3⟩ := bind_some hc3
   (conv => whnf)
   refine st ?_
   refine e3 ?_
   refine st ?_
   refine cm (Zk.weak (rn []) (ZmV t _ hr2) rfl (WS.mk (Zd (Zt (lc (lc (lc (lc Zo))))) Zc) Zb)) ?_
   refine st ?_
   obtain rfl := Zg hc3
   refine st ?_
   exact wx (WS.mk (Zd (Zs (web hc4)) Zc) Zb)
  ·have hc3 := ife hc4 hc3
   (conv => whnf)
   obtain rfl := Zg hc3
   refine st ?_
   exact wx (WS.mk (Zd (Zs (web hc4)) Zc) Zb)
 obtain ⟨r0, hw⟩ := hw
 (conv => whnf)
 refine AWP.weak r0 hw ?_
 obtain rfl := Zg hF
 refine ns ?_
 refine Exists.intro [] ?_
 refine st ?_
 exact wx (WS.mk (tc Zc) Zb)

mutual
def Z6 (t : Za) : Option (Bool) :=
 Zap 0 t t.fKids
 partial_fixpoint
def Zap (i_3 : Nat) (t : Za) (Zgr : (List Za)) : Option (Bool) :=
 (match Zgr with
 | x18 :: ZCS =>
 Z6 x18 >>= fun r21 =>
 if r21 = true then
 some true
 else
 Zap (i_3 + 1) t ZCS
 | [] =>
 some (t.fOp == 4))
 partial_fixpoint
end
def Z6.M (t : Za) (r : Bool) : Prop :=
 Zk Tryz.prog 42 [.agg [.v (.int .i64 t.fOp), .v (.string t.fName), .sl (t.fBound.fArgs.map Zi.cells), .sl (t.fKids.map Za.cells)]] [] (fun d b => d = .c none (.v (.bool r)) ∧ b = [])
def Zap.M (i_3 : Nat) (t : Za) (Zgr : (List Za)) (r : Bool) : Prop :=
 ∀ Zin : List Za, t.fKids = Zin ++ Zgr → i_3 = Zin.length → AWL Tryz.prog 20 (Code.sub (Zq Tryz.f42) [1, 0, 1, 0, 0]) (Code.cont Tryz.prog 20 (Zq Tryz.f42) [1, 0, 1, 0] (ZbS tab Tryz.f42.results (ZbX (.c none (.v (.bool r))) []))) ⟨[(1, .ptr 1 0), (3, .c none (.v (.int .i64 ((i_3 : Nat) : Int))))], [(1, [(none, .v (.int .i64 t.fOp)), (none, .v (.string t.fName)), (none, .sl (t.fBound.fArgs.map Zi.cells)), (none, .sl (t.fKids.map Za.cells))])]⟩
theorem Zjd : (∀ (t : Za), ∀ r, Z6 t = some r → Z6.M t r) ∧ (∀ (i_3 : Nat) (t : Za) (Zgr : (List Za)), ∀ r, Zap i_3 t Zgr = some r → Zap.M i_3 t Zgr r) := by
 refine Z6.mutual_partial_correctness Z6.M Zap.M ?_ ?_
 ·intro lazycref18_quantified_l1' ZdN t r hF
  unfold Z6.M
  refine en Tryz.func42 ?_
  refine AWP.seq ?_
  refine ns ?_
  refine AWP.seq ?_
  refine AWP.seq ?_
  refine ns ?_
  refine AWP.block ?_
  refine AWP.loop ?_
  refine AWL.weak (rn []) ?_ (ZdN 0 t t.fKids _ hF ([]) rfl rfl)
  exact (WS.mk (tp (tc Zc)) (Zf rfl (cc (cc (cc (cc Zh)))) Zb))
 ·intro lazycref18_quantified' lazycref18_quantified_l1' ZjE ZdN i_3 t Zgr r hF
  unfold Zap.M
  intro Zin ZqX Zqd
  refine AWL.step ?_
  refine AWP.seq ?_
  refine AWP.seq ?_
  refine ns ?_
  intro hlen17
  (try rw [List.length_map] at hlen17)
  (try rw [List.length_map])
  refine st ?_
  refine nw ?_
  refine ZS ZqX Zqd (fun x18 ZCS ZDN ZIj ZIf => ?_) (fun ZDN => ?_)
  ·subst ZDN
   refine nw ?_
   refine AWP.seq ?_
   refine AWP.block ?_
   refine AWP.seq ?_
   obtain ⟨r21, ZEd, hF⟩ := bind_some hF
   refine nn ?_
   refine sr (Zau (f := Za.cells) (Za.cells_eq x18) ZIj) ?_
   refine st ?_
   refine e3 ?_
   refine st ?_
   refine cm (Zk.weak (rn []) (ZjE x18 _ ZEd) rfl (WS.mk (Zd (Zt (lc (lc (lc (lc Zo))))) Zc) Zb)) ?_
   refine st ?_
   refine nw ?_
   refine Zj hF (fun ZtF hF => ?_) (fun ZtF hF => ?_)
   ·refine AWP.seq ?_
    refine ns ?_
    obtain rfl := Zg hF
    refine ns ?_
    refine Exists.intro [] ?_
    refine st ?_
    exact wx (WS.mk (tc Zc) Zb)
   ·refine nw ?_
    refine ns ?_
    refine AWL.weak (rn []) ?_ (ZdN (i_3 + 1) t ZCS _ hF (Zin ++ [x18]) (by rw [ZqX]; simp) (by rw [Zqd]; simp))
    exact (WS.mk (tp (Zd (Zs (Zdd (ZZ hlen17 ZIf))) Zc)) (Zf rfl (cc (cc (cc (cc Zh)))) Zb))
  ·subst ZDN
   refine nw ?_
   refine AWP.seq ?_
   refine ns ?_
   obtain rfl := Zg hF
   refine ns ?_
   refine Exists.intro [] ?_
   refine st ?_
   exact wx (WS.mk (tc Zc) Zb)
theorem Zjw : ∀ (t : Za), ∀ r, Z6 t = some r → Z6.M t r := Zjd.1

def Zcl (t : Za) : Option (Bool) :=
 Zag t >>= fun r1 =>
 (if (r1 == 0) = true then Z6 t >>= fun r2 =>
 some (!r2) else some false) >>= fun c3 =>
 some c3
def Zcl.M (t : Za) (r : Bool) : Prop :=
 Zk Tryz.prog 21 [.agg [.v (.int .i64 t.fOp), .v (.string t.fName), .sl (t.fBound.fArgs.map Zi.cells), .sl (t.fKids.map Za.cells)]] [] (fun d b => d = .c none (.v (.bool r)) ∧ b = [])
theorem ZhX (t : Za) (r : Bool) (hF : Zcl t = some r) : Zcl.M t r := by
 unfold Zcl at hF
 unfold Zcl.M
 refine en Tryz.func21 ?_
 refine AWP.seq ?_
 refine ns ?_
 refine AWP.seq ?_
 obtain ⟨r1, hr1, hF⟩ := bind_some hF
 obtain ⟨c3, hc3, hF⟩ := bind_some hF
 refine AWP.cutN (fun T => ∃ r, WS r T ⟨[(2, .c none (.v (.bool c3)))], []⟩) ?_ (fun T hw => ?_)
 ·refine ns ?_
  refine e3 ?_
  refine st ?_
  refine cm (Zk.weak (rn []) (ZdH t _ hr1) rfl (WS.mk (Zd (Zt (lc (lc (lc (lc Zo))))) Zc) Zb)) ?_
  refine st ?_
  refine Zl true (fun hc4 => ?_) (fun hc4 => ?_)
  ·have hc3 := ift hc4 hc3
   obtain ⟨r2, hr2, hc3⟩ := bind_some hc3
   (conv => whnf)
   refine st ?_
   refine e3 ?_
   refine st ?_
   refine cm (Zk.weak (rn []) (Zjw t _ hr2) rfl (WS.mk (Zd (Zt (lc (lc (lc (lc Zo))))) Zc) Zb)) ?_
   refine st ?_
   obtain rfl := Zg hc3
   refine st ?_
   exact wx (WS.mk (Zd (Zs (web hc4)) Zc) Zb)
  ·have hc3 := ife hc4 hc3
   (conv => whnf)
   obtain rfl := Zg hc3
   refine st ?_
   exact wx (WS.mk (Zd (Zs (web hc4)) Zc) Zb)
 obtain ⟨r0, hw⟩ := hw
 (conv => whnf)
 refine AWP.weak r0 hw ?_
 obtain rfl := Zg hF
 refine ns ?_
 refine Exists.intro [] ?_
 refine st ?_
 exact wx (WS.mk (tc Zc) Zb)

mutual
def Zb2 (t : Za) : Option (Za) :=
 ZaT t 0 ([]) t.fKids
 partial_fixpoint
def ZaT (t : Za) (ZsR : Nat) (Zf3 : (List Za)) (Zk0 : (List Za)) : Option (Za) :=
 (match Zk0 with
 | x59 :: Zu6 =>
 Zb2 x59 >>= fun r68 =>
 ZK ((Zf3.length + ([r68]).length) * 72 ≤ 140737488355328) >>= fun _ =>
 ZaT t (ZsR + 1) (Zf3 ++ ([r68])) Zu6
 | [] =>
 some (Za.mk t.fOp t.fName t.fBound Zf3))
 partial_fixpoint
end
def Zb2.M (t : Za) (r : Za) : Prop :=
 Zk Tryz.prog 54 [.agg [.v (.int .i64 t.fOp), .v (.string t.fName), .sl (t.fBound.fArgs.map Zi.cells), .sl (t.fKids.map Za.cells)]] [] (fun d b => d = .agg [.v (.int .i64 r.fOp), .v (.string r.fName), .sl (r.fBound.fArgs.map Zi.cells), .sl (r.fKids.map Za.cells)] ∧ b = [])
def ZaT.M (t : Za) (ZsR : Nat) (Zf3 : (List Za)) (Zk0 : (List Za)) (r : Za) : Prop :=
 ∀ ZnE : List Za, t.fKids = ZnE ++ Zk0 → ZsR = ZnE.length → t.fKids.length ≤ maxLen → AWL Tryz.prog 24 (Code.sub (Zq Tryz.f54) [1, 1, 1, 0, 1, 0, 0]) (Code.cont Tryz.prog 24 (Zq Tryz.f54) [1, 1, 1, 0, 1, 0] (ZbS tab Tryz.f54.results (ZbX (.agg [.v (.int .i64 r.fOp), .v (.string r.fName), .sl (r.fBound.fArgs.map Zi.cells), .sl (r.fKids.map Za.cells)]) []))) ⟨[(1, .ptr 1 0), (2, .ptr 2 0), (9, .c none (.sl (t.fKids.map Za.cells))), (10, .c none (.v (.int .i64 ((t.fKids.length : Nat) : Int)))), (11, .c none (.v (.int .i64 ((ZsR : Nat) : Int))))], [(1, [(none, .v (.int .i64 t.fOp)), (none, .v (.string t.fName)), (none, .sl (t.fBound.fArgs.map Zi.cells)), ((some (4053, 28)), .sl (Zf3.map Za.cells))]), (2, [(none, .v (.int .i64 0)), (none, .v (.string (ByteArray.mk #[]))), (none, .nils), (none, .nils)])]⟩
theorem ZoA : (∀ (t : Za), ∀ r, Zb2 t = some r → Zb2.M t r) ∧ (∀ (t : Za) (ZsR : Nat) (Zf3 : (List Za)) (Zk0 : (List Za)), ∀ r, ZaT t ZsR Zf3 Zk0 = some r → ZaT.M t ZsR Zf3 Zk0 r) := by
 refine Zb2.mutual_partial_correctness Zb2.M ZaT.M ?_ ?_
 ·intro unify_copied_l1' Zgt t r hF
  unfold Zb2.M
  refine en Tryz.func54 ?_
  refine AWP.seq ?_
  refine ns ?_
  refine AWP.seq ?_
  refine ns ?_
  refine AWP.seq ?_
  refine ns ?_
  refine AWP.seq ?_
  refine AWP.seq ?_
  refine ns ?_
  intro hlen35
  (try rw [List.length_map] at hlen35)
  (try rw [List.length_map])
  refine st ?_
  refine AWP.block ?_
  refine AWP.loop ?_
  refine AWL.weak (rn []) ?_ (Zgt t 0 ([]) t.fKids _ hF ([]) rfl rfl hlen35)
  exact (WS.mk (tp (tp (tc (tc (tc Zc))))) (Zf rfl (cc (cc (cc (Zmw Zh)))) (Zf rfl (cc (cc (cc (cc Zh)))) Zb)))
 ·intro unify_copied' unify_copied_l1' ZpB Zgt t ZsR Zf3 Zk0 r hF
  unfold ZaT.M
  intro ZnE Zw4 ZwH hlen35
  refine AWL.step ?_
  refine AWP.seq ?_
  refine ns ?_
  refine AWP.seq ?_
  refine nw ?_
  refine ZS Zw4 ZwH (fun x59 Zu6 ZvW ZDD ZB4 => ?_) (fun ZvW => ?_)
  ·subst ZvW
   refine nw ?_
   refine AWP.seq ?_
   refine AWP.block ?_
   refine AWP.seq ?_
   refine nn ?_
   refine sr (Zau (f := Za.cells) (Za.cells_eq x59) ZDD) ?_
   refine st ?_
   obtain ⟨r68, ZCk, hF⟩ := bind_some hF
   obtain ⟨ZCX, hF⟩ := Zy hF
   refine nn ?_
   refine Or.inl (Or.inl (Exists.intro 5 (Exists.intro [[], [], [], [], []] (Exists.intro [([15, 16, 17, 18, 19], [], []), ([16, 17, 18, 19], [], []), ([15, 16, 17, 18, 19], [], []), ([15, 16, 18, 19], [], []), ([15, 16, 19], [], [])] (Exists.intro [15, 16, 17, 18, 19] (And.intro (by decide +kernel) ?_))))))
   refine dp ?_
   refine dp ?_
   refine dp ?_
   (refine st ?_; apply Exists.intro; apply Exists.intro; apply And.intro; (focus ((conv => whnf); refine Exists.intro [] ?_; (conv => whnf); refine And.intro rfl ?_; (conv => whnf); refine Zk.mono (Zk.weak (rn []) (ZpB x59 _ ZCk) rfl (WS.mk (Zd (Zt (lc (lc (lc (lc Zo))))) Zc) Zb)) ?_; rintro d b ⟨rfl, rfl⟩; exact And.intro rfl (And.intro rfl rfl))); apply And.intro; (focus exact rfl); (conv => whnf))
   refine de (Zcm (f := Za.cells) (Zea (Za.cells_eq r68) (lc (lc (lc (lc Zo))))) (Zaw (f := Za.cells))) ?_
   refine sa (fun l => ZbW l (fun x => Za.cells_len x)) ZCX ?_
   refine Exists.intro _ (And.intro (WE.refl _) ?_)
   rw [← List.map_append]
   refine st ?_
   refine ns ?_
   refine AWL.weak (rn [(20, 4053)]) ?_ (Zgt t (ZsR + 1) (Zf3 ++ ([r68])) Zu6 _ hF (ZnE ++ [x59]) (by rw [Zw4]; simp) (by rw [ZwH]; simp) hlen35)
   exact (WS.mk (tp (tp (tc (tc (Zd (Zs (Zdd (ZZ hlen35 ZB4))) Zc))))) (Zf rfl (cc (cc (cc (ZsY rfl (WE.refl _) Zh)))) (Zf rfl (cc (cc (cc (cc Zh)))) Zb)))
  ·subst ZvW
   refine nw ?_
   refine AWP.seq ?_
   refine ns ?_
   obtain rfl := Zg hF
   refine ns ?_
   refine Exists.intro [] ?_
   refine st ?_
   exact wx (WS.mk (Zd (Zt (lc (lc (lc (lc Zo))))) Zc) Zb)
theorem ZpN : ∀ (t : Za), ∀ r, Zb2 t = some r → Zb2.M t r := ZoA.1

mutual
def ZaG (k : Zi) : Option (Zi) :=
 ZbG k 0 ([]) k.fArgs
 partial_fixpoint
def ZbG (k : Zi) (x_9 : Nat) (ZhS : (List Zi)) (Zb0 : (List Zi)) : Option (Zi) :=
 (match Zb0 with
 | x59 :: Zu6 =>
 ZaG x59 >>= fun r68 =>
 ZK ((ZhS.length + ([r68]).length) * 24 ≤ 140737488355328) >>= fun _ =>
 ZbG k (x_9 + 1) (ZhS ++ ([r68])) Zu6
 | [] =>
 some (Zi.mk ZhS))
 partial_fixpoint
end
def ZaG.M (k : Zi) (r : Zi) : Prop :=
 Zk Tryz.prog 99 [.agg [.sl (k.fArgs.map Zi.cells)]] [] (fun d b => d = .agg [.sl (r.fArgs.map Zi.cells)] ∧ b = [])
def ZbG.M (k : Zi) (x_9 : Nat) (ZhS : (List Zi)) (Zb0 : (List Zi)) (r : Zi) : Prop :=
 ∀ ZcY : List Zi, k.fArgs = ZcY ++ Zb0 → x_9 = ZcY.length → k.fArgs.length ≤ maxLen → AWL Tryz.prog 22 (Code.sub (Zq Tryz.f99) [1, 1, 0, 1, 0, 0]) (Code.cont Tryz.prog 22 (Zq Tryz.f99) [1, 1, 0, 1, 0] (ZbS tab Tryz.f99.results (ZbX (.agg [.sl (r.fArgs.map Zi.cells)]) []))) ⟨[(2, .ptr 2 0), (3, .ptr 3 0), (7, .c none (.sl (k.fArgs.map Zi.cells))), (8, .c none (.v (.int .i64 ((k.fArgs.length : Nat) : Int)))), (9, .c none (.v (.int .i64 ((x_9 : Nat) : Int))))], [(2, [(none, .nils)]), (3, [((some (4150, 25)), .sl (ZhS.map Zi.cells))])]⟩
theorem ZlN : (∀ (k : Zi), ∀ r, ZaG k = some r → ZaG.M k r) ∧ (∀ (k : Zi) (x_9 : Nat) (ZhS : (List Zi)) (Zb0 : (List Zi)), ∀ r, ZbG k x_9 ZhS Zb0 = some r → ZbG.M k x_9 ZhS Zb0 r) := by
 refine ZaG.mutual_partial_correctness ZaG.M ZbG.M ?_ ?_
 ·intro types_copiedKind_l1' ZeO k r hF
  unfold ZaG.M
  refine en Tryz.func99 ?_
  refine AWP.seq ?_
  refine ns ?_
  refine AWP.seq ?_
  refine ns ?_
  refine AWP.seq ?_
  refine AWP.seq ?_
  refine ns ?_
  intro hlen35
  (try rw [List.length_map] at hlen35)
  (try rw [List.length_map])
  refine st ?_
  refine AWP.block ?_
  refine AWP.loop ?_
  refine AWL.weak (rn []) ?_ (ZeO k 0 ([]) k.fArgs _ hF ([]) rfl rfl hlen35)
  exact (WS.mk (tp (tp (tc (tc (tc Zc))))) (Zf rfl (cc Zh) (Zf rfl (Zmw Zh) Zb)))
 ·intro types_copiedKind' types_copiedKind_l1' ZmL ZeO k x_9 ZhS Zb0 r hF
  unfold ZbG.M
  intro ZcY ZgZ Zhf hlen35
  refine AWL.step ?_
  refine AWP.seq ?_
  refine ns ?_
  refine AWP.seq ?_
  refine nw ?_
  refine ZS ZgZ Zhf (fun x59 Zu6 ZvW ZDD ZB4 => ?_) (fun ZvW => ?_)
  ·subst ZvW
   refine nw ?_
   refine AWP.seq ?_
   refine AWP.block ?_
   refine AWP.seq ?_
   refine nn ?_
   refine sr (Zau (f := Zi.cells) (Zi.cells_eq x59) ZDD) ?_
   refine st ?_
   obtain ⟨r68, ZCk, hF⟩ := bind_some hF
   obtain ⟨ZCX, hF⟩ := Zy hF
   refine nn ?_
   refine Or.inl (Or.inl (Exists.intro 5 (Exists.intro [[], [], [], [], []] (Exists.intro [([13, 14, 15, 16, 17], [], []), ([14, 15, 16, 17], [], []), ([13, 14, 15, 16, 17], [], []), ([13, 14, 16, 17], [], []), ([13, 14, 17], [], [])] (Exists.intro [13, 14, 15, 16, 17] (And.intro (by decide +kernel) ?_))))))
   refine dp ?_
   refine dp ?_
   refine dp ?_
   (refine st ?_; apply Exists.intro; apply Exists.intro; apply And.intro; (focus ((conv => whnf); refine Exists.intro [] ?_; (conv => whnf); refine And.intro rfl ?_; (conv => whnf); refine Zk.mono (Zk.weak (rn []) (ZmL x59 _ ZCk) rfl (WS.mk (Zd (Zt (lc Zo)) Zc) Zb)) ?_; rintro d b ⟨rfl, rfl⟩; exact And.intro rfl (And.intro rfl rfl))); apply And.intro; (focus exact rfl); (conv => whnf))
   refine de (Zcm (f := Zi.cells) (Zea (Zi.cells_eq r68) (lc Zo)) (Zaw (f := Zi.cells))) ?_
   refine sa (fun l => ZbW l (fun x => Zi.cells_len x)) ZCX ?_
   refine Exists.intro _ (And.intro (WE.refl _) ?_)
   rw [← List.map_append]
   refine st ?_
   refine ns ?_
   refine AWL.weak (rn [(18, 4150)]) ?_ (ZeO k (x_9 + 1) (ZhS ++ ([r68])) Zu6 _ hF (ZcY ++ [x59]) (by rw [ZgZ]; simp) (by rw [Zhf]; simp) hlen35)
   exact (WS.mk (tp (tp (tc (tc (Zd (Zs (Zdd (ZZ hlen35 ZB4))) Zc))))) (Zf rfl (cc Zh) (Zf rfl (ZsY rfl (WE.refl _) Zh) Zb)))
  ·subst ZvW
   refine nw ?_
   refine AWP.seq ?_
   refine ns ?_
   obtain rfl := Zg hF
   refine ns ?_
   refine Exists.intro [] ?_
   refine st ?_
   exact wx (WS.mk (Zd (Zt (lc Zo)) Zc) Zb)
theorem ZmW : ∀ (k : Zi), ∀ r, ZaG k = some r → ZaG.M k r := ZlN.1

end Go.Proofs.YtgbglhbdjambbaaGreatDoor
