/- Part 10 of the proof: the program's functions as Lean functions with their walks, and the plain law. It holds for every input, without conditions. -/
import Derived.Test.YtafniolcakiljaaDoorProg
import Derived.Shelf.SlicesQ.Reverse
import Derived.Shelf.SlicesE.Kit
import Derived.Shelf.RegionOpenPlain
import Derived.WalkKit
import Derived.Deep.LoopGhost
import Derived.Deep.Draws
import Derived.Lib.Walk
import Derived.Sort.WalkB12
import Derived.Lib.SliceRun
import Derived.IntWalk
import Derived.Lib.SlicesCompact
import Derived.Shelf.SlSortCmp.NoneTotal
import Derived.Shelf.Spec.SlicesGrow
import Derived.Test.YtafniolcakiljaaDoorUsA
import Derived.Test.YtafniolcakiljaaDoorUsB
import Derived.Test.YtafniolcakiljaaDoorUsC
import Derived.Test.YtafniolcakiljaaDoorUsD
import Derived.Test.YtafniolcakiljaaDoorUsE
import Derived.Test.YtafniolcakiljaaDoorUsF
import Derived.Test.YtafniolcakiljaaDoorUsG
import Derived.Test.YtafniolcakiljaaDoorUsH
import Derived.Test.YtafniolcakiljaaDoorUsI
set_option linter.unusedVariables false
set_option linter.unusedSimpArgs false
set_option linter.unusedSectionVars false
set_option maxRecDepth 100000
set_option maxHeartbeats 4000000
namespace Go.Proofs.YtafniolcakiljaaDoor
section
open Go.Shelf Go.RowKit Go.Lib Go.Sort
variable {α : Type} [Inhabited α] [DecidableEq α]
theorem Zlc (enc : α → List Value) (k : Nat) (hk : ∀ x, (enc x).length = k) (d : Array α) (i : Nat) (hi : i < d.size) (u : α) :
  setMany (flatK enc k d) (i * k) (enc u) = flatK enc k (d.setIfInBounds i u) := by
 refine ext_get! (by simp) fun t ht => ?_
 have ht' : t < d.size * k := by simpa using ht
 have k0 : 0 < k := by rcases Nat.eq_zero_or_pos k with h | h; · subst h; simp at ht'
                       · exact h
 rw [get_setMany _ _ _ t (by simpa using ht'), get_flatK _ _ _ t ht', get_flatK _ _ _ t (by simpa using ht'), hk]
 by_cases b : t / k = i
 ·rw [if_pos ((blk_iff k i t k0).2 b), b, getElem!_set_same d i u hi]
  have : t - i * k = t % k := by subst b; rw [Nat.mod_eq_sub_div_mul]
  rw [this]
 ·rw [if_neg (fun h => b ((blk_iff k i t k0).1 h)), getElem!_set_other d i _ u b]
theorem Zpe {d : Array α} {k i : Nat} (hi : i < d.size) : i * k + k ≤ d.size * k := by
 have := Nat.mul_le_mul_right k (show i + 1 ≤ d.size from hi); rwa [Nat.add_mul, Nat.one_mul] at this
theorem ZhL (enc : α → List Value) (k : Nat) (hk : ∀ x, (enc x).length = k) (w : World) (blk off : Nat) (d : Array α) (i : Nat) (hi : i < d.size) (u : α) :
  (putRowK enc k w blk off d).setCells blk (off + i * k) (enc u) = putRowK enc k w blk off (d.setIfInBounds i u) := by
 unfold putRowK
 rw [setCells_putRow _ _ _ _ _ _ (by rw [hk, size_flatK]; exact Zpe hi), Zlc enc k hk d i hi u]
theorem Zh5 (w : World) (blk : Nat) : ∀ (a b : List Value) (o : Nat), w.setCells blk o (a ++ b) = (w.setCells blk o a).setCells blk (o + a.length) b := by
 intro a
 induction a generalizing w with
 | nil => intro b o; rfl
 | cons v a ih =>
  intro b o
  rw [List.cons_append, World.setCells, World.setCells, ih, List.length_cons, show o + 1 + a.length = o + (a.length + 1) by omega]
theorem ZhO (enc : α → List Value) (k : Nat) (hk : ∀ x, (enc x).length = k) (w : World) (blk off : Nat) : ∀ (xs : List α) (d : Array α) (s : Nat), s + xs.length ≤ d.size →
  (putRowK enc k w blk off d).setCells blk (off + s * k) (xs.flatMap enc) = putRowK enc k w blk off (lay d s xs)
 | [], _, _, _ => rfl
 | x :: xs, d, s, h => by
  rw [List.length_cons] at h
  rw [List.flatMap_cons, Zh5, ZhL enc k hk _ _ _ _ _ (by omega), hk, show off + s * k + k = off + (s + 1) * k by rw [Nat.add_mul, Nat.one_mul]; omega, ZhO enc k hk w blk off xs _ (s + 1) (by simp; omega)]
  rfl
theorem Zfh (z : List Value) : ∀ n, (Builtin.zeroCells z.toArray n).toList = (List.replicate n z).flatten
 | 0 => by simp [Builtin.zeroCells]
 | n + 1 => by
  have ih := Zfh z n
  simp only [Builtin.zeroCells, List.size_toArray, Array.toList_map, Array.toList_range] at ih ⊢
  rw [Nat.add_mul, Nat.one_mul, Nat.add_comm, List.range_add, List.map_append, List.map_map, List.replicate_succ, List.flatten_cons, ← ih]
  congr 1
  ·apply List.ext_getElem
   ·simp
   ·intro i h1 h2
    simp [Nat.mod_eq_of_lt h2, h2]
  ·apply List.map_congr_left
   intro i _
   simp
theorem ZkU {P : Program} (enc : α → List Value) (k : Nat) (hk : ∀ x, (enc x).length = k) (h1 : ∀ x, ∀ v ∈ enc x, v.oneCell' = true) (w : World) (t e ty : TypeId) (zr : α) (ht : P.underlying t = some (.slice e)) (hv : ∀ w, (zeroValue e).run P w = .ok (.agg (enc zr).toArray) w)
  (b off s n c : Nat) (hn : 0 < n) {d : Array α} (hd : s + n = d.size) (hH : HoldsK enc k w b off d) :
  (Builtin.clear_ #[t] ty #[.slice (some ⟨b, off + s * k, none⟩) n c]).run P w = .ok (.tuple #[]) (w.setCells b (off + s * k) ((List.replicate n zr).flatMap enc)) := by
 have hzc : (Builtin.zeroCells (enc zr).toArray n).toList = (List.replicate n zr).flatMap enc := by
  rw [Zfh, List.flatMap, List.map_replicate]
 have hlen : ((List.replicate n zr).flatMap enc).length = n * k := by rw [← hzc]; simp [Builtin.zeroCells, hk]
 have hst := stores_of_holds P (F := flatK enc k d) hH (s * k) ((List.replicate n zr).flatMap enc) (by rw [hlen, size_flatK, ← hd, Nat.add_mul]; exact Nat.le_refl _) (fun v hv' => by
  rw [List.mem_flatMap] at hv'
  obtain ⟨x, hx, hv'⟩ := hv'
  exact h1 x v hv')
 obtain ⟨m, rfl⟩ : ∃ m, n = m + 1 := ⟨n - 1, by omega⟩
 simp [Builtin.clear_, run_underlying ht, hv, Value.cells, hzc, hst]
set_option maxHeartbeats 4000000 in
set_option maxRecDepth 1000000 in
theorem Znx (enc : α → List Value) (k : Nat) (hk : ∀ x, (enc x).length = k) (h1 : ∀ x, ∀ v ∈ enc x, v.oneCell' = true)
  (aE : ∀ w, (isAgg 41).run Tryd.prog w = .ok true w) (zE : ∀ w, (Go.sizeOf 41).run Tryd.prog w = .ok k w)
  (heq' : ∀ (x y : α) (w : World), Sem.run Tryd.prog (binOp .eql 41 (.agg (enc x).toArray) (.agg (enc y).toArray)) w = .ok (.bool (decide (x = y))) w)
  (hne' : ∀ (x y : α) (w : World), Sem.run Tryd.prog (binOp .neq 41 (.agg (enc x).toArray) (.agg (enc y).toArray)) w = .ok (.bool (!decide (x = y))) w)
  (hgd' : ∀ (op : BinOp) (a b : Operand) (x y : α) (w : World), Sem.run Tryd.prog (eqGuard op 41 a b (.agg (enc x).toArray) (.agg (enc y).toArray)) w = .ok () w)
  (zr : α) (v41 : ∀ w, (zeroValue 41).run Tryd.prog w = .ok (.agg (enc zr).toArray) w)
  (blk off cap : Nat) (d : Array α) (w : World) (hH : HoldsK enc k w blk off d) (hsz : d.size ≤ 4611686018427387904) (hcap : d.size ≤ cap) :
  Calls Tryd.prog 66 #[.slice (some ⟨blk, off, none⟩) d.size cap] w fun e w' => e = .returned (.slice (some ⟨blk, off, none⟩) (compactUpTo d d.size).length cap) ∧ ∃ q, w' = putRowK enc k (Sort.ahead w q) blk off (compactUpTo d d.size ++ List.replicate (d.size - (compactUpTo d d.size).length) zr).toArray := by
 have mixed : Tryd.prog.follows .mixedOrders = true := by kernel_rfl
 have same : ∀ q, (∀ j, j < d.size → keeps d j = true) → (compactUpTo d d.size).length = d.size ∧ w.drewN q = putRowK enc k (Sort.ahead w q) blk off (compactUpTo d d.size ++ List.replicate (d.size - (compactUpTo d d.size).length) zr).toArray := by
  intro q hall
  have e : compactUpTo d d.size = d.toList := by rw [compactUpTo_all d _ hall, range_map_get]
  rw [e]
  refine ⟨by simp, ?_⟩
  simp only [Array.length_toList, Nat.sub_self, List.replicate_zero, List.append_nil, Array.toArray_toList]
  exact (putRowK_self enc k (Sort.ahead w q) blk off d (holdsK_ahead enc k w q blk off d hH)).symm
 have HS : Aside (∀ q, (∀ j, j < d.size → keeps d j = true) → (compactUpTo d d.size).length = d.size ∧ w.drewN q = putRowK enc k (Sort.ahead w q) blk off (compactUpTo d d.size ++ List.replicate (d.size - (compactUpTo d d.size).length) zr).toArray) := same
 clear same
 by_cases h2 : d.size < 2
 ·have HH : Aside (HoldsK enc k w blk off d) := hH
  clear hH
  go_enter Tryd.func66, Tryd.ntmps66
  go_wp2
  go_ret
  obtain ⟨e1, e2⟩ := HS.out 0 (fun j hj => keeps_lt_one d j (by omega))
  exact ⟨by rw [e1]; rfl, 0, e2⟩
 ·have ld : ∀ (q i : Nat), i < d.size → ∀ m, Sem.run Tryd.prog (loadCellsFrom ⟨blk, off + i * k, none⟩ 0 k #[]) ((w.drewN q).drewN m) = .ok (enc d[i]!).toArray ((w.drewN q).drewN m) := fun q i hi m => by
   rw [World.drewN_drewN]
   exact run_loadCellsFrom_list Tryd.prog _ _ (enc d[i]!) k (hk _) (fun c v hv => by rw [World.cell?_drewN]; exact HoldsK.cells hH hk hi c v hv)
  have HK : Aside (HoldsK enc k w blk off d ∧ (∀ x, (enc x).length = k) ∧ ∀ x, ∀ v ∈ enc x, v.oneCell' = true) := ⟨hH, hk, h1⟩
  clear hH hk h1
  go_enter Tryd.func66, Tryd.ntmps66
  go_wp2
  go_loopg [3] d.size (fun g s3 wr => ∃ k q : Nat, 1 ≤ k ∧ k ≤ d.size ∧ d.size - k ≤ g ∧ s3 = .int .i64 k ∧ wr = w.drewN q ∧ Aside (∀ j, j < k → keeps d j = true))
  case atStart => exact ⟨1, 0, Nat.le_refl _, by omega, by omega, rfl, rfl, keeps_lt_one d⟩
  case round =>
   obtain ⟨i, q, hk1, hi, hg, rfl, rfl, A⟩ := hrel
   by_cases hlt : i < d.size
   ·have g1 := ld q i hlt
    have g2 := ld q (i - 1) (by omega)
    have hw1 : IntKind.i64.wrap ((i : Int) - 1) = ((i - 1 : Nat) : Int) := by rw [show IntKind.i64.wrap ((i : Int) - 1) = (i : Int) - 1 from IntWalk.i64_in _ ⟨by omega, by omega⟩]; omega
    have hi1 : i - 1 < d.size := by omega
    generalize hx : d[i]! = x at g1
    generalize hy : d[i - 1]! = y at g2
    generalize hwq : w.drewN q = wq at g1 g2 ⊢
    have B : Aside (d[i]! = x ∧ d[i - 1]! = y) := ⟨hx, hy⟩
    have LD : Aside (∀ (q i : Nat), i < d.size → ∀ m, Sem.run Tryd.prog (loadCellsFrom ⟨blk, off + i * k, none⟩ 0 k #[]) ((w.drewN q).drewN m) = .ok (enc d[i]!).toArray ((w.drewN q).drewN m)) := ld
    clear hx hy ld
    by_cases hdup : x = y
    ·subst hdup
     go_wp2_with fail
     go_quiet_o (fail)
     go_wp2
     go_loopg [3, 5] d.size (fun g s3 s5 wr => ∃ (kk k2 q2 : Nat) (dk : Array α), s3 = .int .i64 kk ∧ s5 = .int .i64 k2 ∧ 1 ≤ k2 ∧ i + k2 ≤ d.size ∧ d.size - (i + k2) ≤ g ∧ Aside (wr = putRowK enc k (Sort.ahead w q2) blk off dk) ∧ Aside (CompInv d (i + k2) kk dk))
     case atStart => exact ⟨i, 1, q + nq, d, rfl, rfl, Nat.le_refl _, by omega, by omega, (show Aside _ from by rw [← hwq, World.drewN_drewN]; exact (putRowK_self enc k (Sort.ahead w (q + nq)) blk off d (holdsK_ahead enc k w (q + nq) blk off d HK.out.1)).symm), (show Aside _ from CompInv.start A.out (keeps_neg (by omega) (by rw [B.out.1, B.out.2])))⟩
     case round =>
      obtain ⟨kk, k2, q2, dk, rfl, rfl, h1, hle, hg2, W2, I2⟩ := hrel
      have hkk := I2.out.lt
      have hds := I2.out.size
      have hHk : ∀ m, HoldsK enc k (wr.drewN m) blk off dk := fun m => by rw [W2.out, putRowK_drewN]; exact holdsK_putRowK enc k _ blk off d dk (holdsK_ahead enc k w _ blk off d HK.out.1) hds
      have HH : Aside (∀ m, HoldsK enc k (wr.drewN m) blk off dk) := hHk
      by_cases hlt2 : i + k2 < d.size
      ·have hw2 : IntKind.i64.wrap ((k2 : Int) - 1) = ((k2 - 1 : Nat) : Int) := by rw [show IntKind.i64.wrap ((k2 : Int) - 1) = (k2 : Int) - 1 from IntWalk.i64_in _ ⟨by omega, by omega⟩]; omega
       have hk2 : k2 - 1 < d.size - i := by omega
       have hk3 : k2 < d.size - i := by omega
       have g3 : ∀ m, Sem.run Tryd.prog (loadCellsFrom ⟨blk, off + i * k + k2 * k, none⟩ 0 k #[]) (wr.drewN m) = .ok (enc d[i + k2]!).toArray (wr.drewN m) := fun m => by
        rw [show off + i * k + k2 * k = off + (i + k2) * k by rw [Nat.add_mul]; omega, ← I2.out.high (i + k2) (by omega)]
        exact run_loadCellsFrom_list Tryd.prog _ _ _ k (HK.out.2.1 _) (HoldsK.cells (HH.out m) HK.out.2.1 (by omega))
       have g4 : ∀ m, Sem.run Tryd.prog (loadCellsFrom ⟨blk, off + i * k + (k2 - 1) * k, none⟩ 0 k #[]) (wr.drewN m) = .ok (enc d[i + k2 - 1]!).toArray (wr.drewN m) := fun m => by
        rw [show off + i * k + (k2 - 1) * k = off + (i + k2 - 1) * k by rw [show i + k2 - 1 = i + (k2 - 1) by omega, Nat.add_mul]; omega, ← I2.out.high (i + k2 - 1) (by omega)]
        exact run_loadCellsFrom_list Tryd.prog _ _ _ k (HK.out.2.1 _) (HoldsK.cells (HH.out m) HK.out.2.1 (by omega))
       generalize hu : d[i + k2]! = u at g3
       generalize hv : d[i + k2 - 1]! = v at g4
       have st : ∀ m, Sem.run Tryd.prog (storeCells ⟨blk, off + kk * k, none⟩ (enc u) 0) (wr.drewN m) = .ok () ((wr.drewN m).setCells blk (off + kk * k) (enc u)) := fun m =>
        stores_of_holds Tryd.prog (HH.out m) (kk * k) (enc u) (by rw [HK.out.2.1, size_flatK]; exact Zpe (by omega)) (HK.out.2.2 u)
       have hul : (enc u).length = k := HK.out.2.1 u
       have C : Aside (d[i + k2]! = u ∧ d[i + k2 - 1]! = v) := ⟨hu, hv⟩
       clear hu hv hHk g1 g2
       by_cases huv : u = v
       ·subst huv
        go_wp2_with fail
        go_quiet_o (fail)
        go_wp2
        go_roundg (d.size - (i + (k2 + 1)))
        case measure => omega
        case rel => exact ⟨kk, k2 + 1, q2 + nq, dk, rfl, by go_num, by omega, by omega, Nat.le_refl _, (show Aside _ from by show _ = _; rw [W2.out, putRowK_drewN]), (show Aside _ from I2.out.skip (keeps_neg (by omega) (by rw [C.out.1, C.out.2])))⟩
       ·go_wp2_with fail
        go_quiet_o (fail)
        go_wp2
        go_roundg (d.size - (i + (k2 + 1)))
        case measure => omega
        case rel => exact ⟨kk + 1, k2 + 1, q2 + nq, dk.setIfInBounds kk u, by go_num, by go_num, by omega, by omega, Nat.le_refl _, (show Aside _ from by show _ = _; rw [W2.out, putRowK_drewN, ZhL enc k HK.out.2.1 _ _ _ _ _ (by omega)]), (show Aside _ from by have := I2.out.keep hlt2 (keeps_pos (by rw [C.out.1, C.out.2]; exact huv)); rwa [C.out.1] at this)⟩
      ·have hend : i + k2 = d.size := by omega
       have hcl : ∀ ty, (Builtin.clear_ #[24] ty #[.slice (some ⟨blk, off + kk * k, none⟩) (d.size - kk) (cap - kk)]).run Tryd.prog wr = .ok (.tuple #[]) (wr.setCells blk (off + kk * k) ((List.replicate (d.size - kk) zr).flatMap enc)) :=
        fun ty => ZkU enc k HK.out.2.1 HK.out.2.2 wr 24 41 ty zr Tryd.underlying24 v41 blk off kk (d.size - kk) _ (by omega) (d := dk) (by omega) (HH.out 0)
       clear hHk g1 g2
       go_wp2
       go_ret
       have hI := I2.out
       rw [hend] at hI
       refine ⟨by rw [hI.len]; rfl, q2, ?_⟩
       rw [hI.len, ← hI.done zr, ← ZhO enc k HK.out.2.1 _ _ _ _ _ _ (by simp; omega), ← W2.out]
    ·go_wp2_with fail
     go_quiet_o (fail)
     go_wp2
     go_roundg (d.size - (i + 1))
     case measure => omega
     case rel =>
      refine ⟨i + 1, q + nq, by omega, by omega, Nat.le_refl _, by go_num, by rw [← hwq, World.drewN_drewN], (show Aside _ from fun j hj => ?_)⟩
      by_cases e : j = i
      ·subst e
       exact keeps_pos (by rw [B.out.1, B.out.2]; exact hdup)
      ·exact A.out j (by omega)
   ·have : i = d.size := by omega
    subst this
    clear ld
    go_wp2
    go_ret
    obtain ⟨e1, e2⟩ := HS.out q A.out
    exact ⟨by rw [e1]; rfl, q, e2⟩
end

end Go.Proofs.YtafniolcakiljaaDoor
namespace Go.Proofs
open Go.Shelf
def Tryd.sortExc_ren : Go.Shelf.Ren := ⟨fun | 6 => 64 | 15 => 79 | 14 => 78 | 28 => 96 | 29 => 97 | 20 => 88 | 21 => 89 | 22 => 90 | 23 => 91 | 24 => 92 | 25 => 93 | 26 => 94 | 27 => 95 | 46 => 108 | 47 => 109 | 48 => 110 | 49 => 111 | 50 => 112 | 57 => 128 | n => n, fun | 22 => 24 | 24 => 41 | 25 => 84 | 3 => 3 | 39 => 102 | 0 => 0 | 53 => 115 | 55 => 117 | 4 => 4 | 46 => 108 | 45 => 107 | 50 => 112 | 5 => 5 | 9 => 9 | 66 => 126 | 70 => 130 | 76 => 143 | 77 => 144 | n => n, fun | n => n⟩
theorem Tryd.sortExc : Go.Proofs.SlLaysF0.n6 Tryd.prog Tryd.sortExc_ren := {
 mixed := by kernel_rfl
 f6 := ⟨Tryd.f64.name, by decide, Tryd.func64.trans (congrArg some (by kernel_rfl))⟩
 f14 := ⟨Tryd.f78.name, by decide, Tryd.func78.trans (congrArg some (by kernel_rfl))⟩
 f15 := Tryd.func79.trans (congrArg some (by kernel_rfl))
 f20 := ⟨Tryd.f88.name, by decide, Tryd.func88.trans (congrArg some (by kernel_rfl))⟩
 f21 := ⟨Tryd.f89.name, by decide, Tryd.func89.trans (congrArg some (by kernel_rfl))⟩
 f22 := ⟨Tryd.f90.name, by decide, Tryd.func90.trans (congrArg some (by kernel_rfl))⟩
 f23 := ⟨Tryd.f91.name, by decide, Tryd.func91.trans (congrArg some (by kernel_rfl))⟩
 f24 := ⟨Tryd.f92.name, by decide, Tryd.func92.trans (congrArg some (by kernel_rfl))⟩
 f25 := ⟨Tryd.f93.name, by decide, Tryd.func93.trans (congrArg some (by kernel_rfl))⟩
 f26 := ⟨Tryd.f94.name, by decide, Tryd.func94.trans (congrArg some (by kernel_rfl))⟩
 f27 := ⟨Tryd.f95.name, by decide, Tryd.func95.trans (congrArg some (by kernel_rfl))⟩
 f28 := Tryd.func96.trans (congrArg some (by kernel_rfl))
 f29 := Tryd.func97.trans (congrArg some (by kernel_rfl))
 f46 := ⟨Tryd.f108.name, by decide, Tryd.func108.trans (congrArg some (by kernel_rfl))⟩
 f47 := Tryd.func109.trans (congrArg some (by kernel_rfl))
 f48 := Tryd.func110.trans (congrArg some (by kernel_rfl))
 f49 := ⟨Tryd.f111.name, by decide, Tryd.func111.trans (congrArg some (by kernel_rfl))⟩
 f50 := ⟨Tryd.f112.name, by decide, Tryd.func112.trans (congrArg some (by kernel_rfl))⟩
 f57 := ⟨Tryd.f128.name, by decide, Tryd.func128.trans (congrArg some (by kernel_rfl))⟩
 t0 := Tryd.underlying0
 a0 := Tryd.isAgg0
 z0 := Tryd.sizeOf0
 v0 := Tryd.zeroValue0
 t3 := Tryd.underlying3
 a3 := Tryd.isAgg3
 z3 := Tryd.sizeOf3
 v3 := Tryd.zeroValue3
 t4 := Tryd.underlying4
 a4 := Tryd.isAgg4
 z4 := Tryd.sizeOf4
 v4 := Tryd.zeroValue4
 t5 := Tryd.underlying5
 a5 := Tryd.isAgg5
 z5 := Tryd.sizeOf5
 v5 := Tryd.zeroValue5
 t9 := Tryd.underlying9
 a9 := Tryd.isAgg9
 z9 := Tryd.sizeOf9
 v9 := Tryd.zeroValue9
 t22 := Tryd.underlying24
 a22 := Tryd.isAgg24
 z22 := Tryd.sizeOf24
 v22 := Tryd.zeroValue24
 t25 := Tryd.underlying84
 a25 := Tryd.isAgg84
 z25 := Tryd.sizeOf84
 v25 := Tryd.zeroValue84
 t39 := Tryd.underlying102
 a39 := Tryd.isAgg102
 z39 := Tryd.sizeOf102
 v39 := Tryd.zeroValue102
 t45 := Tryd.underlying107
 a45 := Tryd.isAgg107
 z45 := Tryd.sizeOf107
 v45 := Tryd.zeroValue107
 t46 := Tryd.underlying108
 a46 := Tryd.isAgg108
 z46 := Tryd.sizeOf108
 v46 := Tryd.zeroValue108
 t50 := Tryd.underlying112
 a50 := Tryd.isAgg112
 z50 := Tryd.sizeOf112
 v50 := Tryd.zeroValue112
 t53 := Tryd.underlying115
 a53 := Tryd.isAgg115
 z53 := Tryd.sizeOf115
 v53 := Tryd.zeroValue115
 t55 := Tryd.underlying117
 a55 := Tryd.isAgg117
 z55 := Tryd.sizeOf117
 v55 := Tryd.zeroValue117
 t66 := Tryd.underlying126
 a66 := Tryd.isAgg126
 z66 := Tryd.sizeOf126
 v66 := Tryd.zeroValue126
 t70 := Tryd.underlying130
 a70 := Tryd.isAgg130
 z70 := Tryd.sizeOf130
 v70 := Tryd.zeroValue130
 t76 := Tryd.underlying143
 a76 := Tryd.isAgg143
 z76 := Tryd.sizeOf143
 v76 := Tryd.zeroValue143
 t77 := Tryd.underlying144
 a77 := Tryd.isAgg144
 z77 := Tryd.sizeOf144
 v77 := Tryd.zeroValue144 }
def Tryd.growExc_ren : Go.Shelf.Ren := ⟨fun | 4 => 77 | n => n, fun | 22 => 24 | 25 => 41 | 3 => 3 | 4 => 4 | 9 => 9 | 20 => 20 | 0 => 0 | n => n, fun | n => n⟩
theorem Tryd.growExc : Go.Proofs.Lays8.n4 Tryd.prog Tryd.growExc_ren := {
 mixed := by kernel_rfl
 f4 := ⟨Tryd.f77.name, by decide, Tryd.func77.trans (congrArg some (by kernel_rfl))⟩
 t0 := Tryd.underlying0
 a0 := Tryd.isAgg0
 z0 := Tryd.sizeOf0
 v0 := Tryd.zeroValue0
 t3 := Tryd.underlying3
 a3 := Tryd.isAgg3
 z3 := Tryd.sizeOf3
 v3 := Tryd.zeroValue3
 t4 := Tryd.underlying4
 a4 := Tryd.isAgg4
 z4 := Tryd.sizeOf4
 v4 := Tryd.zeroValue4
 t9 := Tryd.underlying9
 a9 := Tryd.isAgg9
 z9 := Tryd.sizeOf9
 v9 := Tryd.zeroValue9
 t20 := Tryd.underlying20
 a20 := Tryd.isAgg20
 z20 := Tryd.sizeOf20
 v20 := Tryd.zeroValue20
 t22 := Tryd.underlying24
 a22 := Tryd.isAgg24
 z22 := Tryd.sizeOf24
 v22 := Tryd.zeroValue24 }

end Go.Proofs
namespace Go.Proofs.YtafniolcakiljaaDoor
open Go Go.Am Go.RowKit Go.Sort Go.Lib
instance : Inhabited Ze := ⟨⟨ByteArray.mk #[], 0⟩⟩
instance : DecidableEq Ze := fun a b => if h : a.fCon = b.fCon ∧ a.fN = b.fN then isTrue (by cases a; cases b; simp only at h; rw [h.1, h.2]) else isFalse (fun e => h (by rw [e]; exact ⟨rfl, rfl⟩))
def Zcp (x : Ze) : List Value := [.string x.fCon, .int .i64 x.fN]
theorem ZkP (x : Ze) : (Zcp x).length = 2 := rfl
theorem Zls (x : Ze) : ∀ v ∈ Zcp x, v.oneCell' = true := fun v hv => by
 simp only [Zcp, List.mem_cons, List.not_mem_nil, or_false] at hv
 rcases hv with rfl | rfl <;> rfl
def Zg0 (a b : Ze) : Int := if Lib.compareBytes a.fCon.data.toList b.fCon.data.toList ≠ 0 then Lib.compareBytes a.fCon.data.toList b.fCon.data.toList else if a.fN < b.fN then -1 else if a.fN > b.fN then 1 else 0
theorem Zks (a b : Ze) (W : World) : Calls Tryd.prog 65 #[.agg (Zcp a).toArray, .agg (Zcp b).toArray] W fun e w' => e = .returned (.int .i64 (Zg0 a b)) ∧ ∃ q os', w' = grow (W.drewN q) os' := by
 have hcon := fun W' => Tryd.strings_Compare a.fCon b.fCon W'
 unfold Zg0 Zcp
 generalize Lib.compareBytes a.fCon.data.toList b.fCon.data.toList = c at hcon ⊢
 generalize a.fN = x
 generalize b.fN = y
 have fin : ∀ (o1 o2 : Obj), ∃ q os', (W.alloc o1).alloc o2 = grow (W.drewN q) os' := fun o1 o2 => ⟨0, _, by rw [alloc_eq_grow, alloc_eq_grow, grow_grow]; rfl⟩
 by_cases hc : c = 0
 ·subst hc
  rw [if_neg (by decide)]
  by_cases h1 : x < y
  ·rw [if_pos h1]
   go_enter Tryd.func65, Tryd.ntmps65
   go_wp2_with (go_at_call 80; refine (hcon _).mono ?_; rintro e w' ⟨rfl, rfl⟩)
   go_ret
   exact ⟨rfl, fin _ _⟩
  ·rw [if_neg h1]
   by_cases h2 : x > y
   ·rw [if_pos h2]
    go_enter Tryd.func65, Tryd.ntmps65
    go_wp2_with (go_at_call 80; refine (hcon _).mono ?_; rintro e w' ⟨rfl, rfl⟩)
    go_ret
    exact ⟨rfl, fin _ _⟩
   ·rw [if_neg h2]
    go_enter Tryd.func65, Tryd.ntmps65
    go_wp2_with (go_at_call 80; refine (hcon _).mono ?_; rintro e w' ⟨rfl, rfl⟩)
    go_ret
    exact ⟨rfl, fin _ _⟩
 ·rw [if_pos hc]
  go_enter Tryd.func65, Tryd.ntmps65
  go_wp2_with (go_at_call 80; refine (hcon _).mono ?_; rintro e w' ⟨rfl, rfl⟩)
  go_ret
  exact ⟨rfl, fin _ _⟩
theorem ZgI : ∀ a b : List UInt8, (Lib.compareBytes a b = -1 ∧ Op.bytesLess a b = true ∧ (a == b) = false) ∨ (Lib.compareBytes a b = 0 ∧ Op.bytesLess a b = false ∧ (a == b) = true) ∨ (Lib.compareBytes a b = 1 ∧ Op.bytesLess a b = false ∧ (a == b) = false)
 | [], [] => .inr (.inl ⟨rfl, rfl, rfl⟩)
 | [], _ :: _ => .inl ⟨rfl, rfl, rfl⟩
 | _ :: _, [] => .inr (.inr ⟨rfl, rfl, rfl⟩)
 | a :: x, b :: y => by
  rw [Lib.compareBytes, Op.bytesLess, List.cons_beq_cons]
  by_cases h : a < b
  ·have hne : (a == b) = false := by rw [beq_eq_false_iff_ne]; rintro rfl; exact absurd h (UInt8.lt_irrefl a)
   rw [if_pos h]; exact .inl ⟨rfl, by simp [h], by rw [hne]; rfl⟩
  ·by_cases h2 : b < a
   ·have hne : (a == b) = false := by rw [beq_eq_false_iff_ne]; rintro rfl; exact absurd h2 (UInt8.lt_irrefl a)
    rw [if_neg h, if_pos h2, hne]; exact .inr (.inr ⟨rfl, by simp [h], rfl⟩)
   ·have heq : a = b := UInt8.le_antisymm (UInt8.not_lt.1 h2) (UInt8.not_lt.1 h)
    subst heq
    rw [if_neg h, if_neg h, beq_self_eq_true, Bool.true_and, Bool.true_and]
    simp only [h, decide_false, Bool.false_or]
    exact ZgI x y
def ltE (a b : Ze) : Prop := a.fCon.data.toList < b.fCon.data.toList ∨ (a.fCon.data.toList = b.fCon.data.toList ∧ a.fN < b.fN)
instance (a b : Ze) : Decidable (ltE a b) := by unfold ltE; infer_instance
theorem Zic (a b : Ze) : ltOf Zg0 a b = decide (ltE a b) := by
 unfold ltOf
 refine decide_eq_decide.2 ?_
 unfold Zg0 ltE
 rcases ZgI a.fCon.data.toList b.fCon.data.toList with ⟨h1, h2, h3⟩ | ⟨h1, h2, h3⟩ | ⟨h1, h2, h3⟩
 ·rw [bytesLess_eq, decide_eq_true_iff] at h2
  rw [h1]; simp [h2]
 ·rw [beq_iff_eq] at h3
  rw [bytesLess_eq, decide_eq_false_iff_not] at h2
  rw [h1, h3]
  simp only [ne_eq, not_true_eq_false, if_false, true_and]
  rw [h3] at h2
  by_cases h4 : a.fN < b.fN
  ·simp [h4]
  ·by_cases h5 : a.fN > b.fN <;> simp [h4, h5, h2]
 ·rw [bytesLess_eq, decide_eq_false_iff_not] at h2
  rw [beq_eq_false_iff_ne] at h3
  rw [h1]; simp [h2, h3]
theorem ZcT (a : Ze) : ¬ ltE a a := by
 unfold ltE
 rintro (h | ⟨_, h⟩)
 ·exact List.lt_irrefl _ h
 ·omega
theorem Zex {a b c : Ze} (h : ltE a b) (k : ltE b c) : ltE a c := by
 unfold ltE at *
 rcases h with h | ⟨h1, h2⟩
 ·rcases k with k | ⟨k1, k2⟩
  ·exact .inl (List.lt_trans h k)
  ·exact .inl (k1 ▸ h)
 ·rcases k with k | ⟨k1, k2⟩
  ·exact .inl (h1 ▸ k)
  ·exact .inr ⟨h1.trans k1, by omega⟩
theorem ZfR (a b : Ze) : ltE a b ∨ a = b ∨ ltE b a := by
 unfold ltE
 rcases ZgI a.fCon.data.toList b.fCon.data.toList with ⟨h1, h2, h3⟩ | ⟨h1, h2, h3⟩ | ⟨h1, h2, h3⟩
 ·rw [bytesLess_eq, decide_eq_true_iff] at h2; exact .inl (.inl h2)
 ·rw [beq_iff_eq] at h3
  rcases Int.lt_trichotomy a.fN b.fN with h | h | h
  ·exact .inl (.inr ⟨h3, h⟩)
  ·refine .inr (.inl ?_)
   cases a with | mk ac an => cases b with | mk bc bn =>
   simp only at h3 h
   have : ac = bc := by cases ac; cases bc; simp only at h3; rw [Array.toList_inj.1 h3]
   rw [this, h]
  ·exact .inr (.inr (.inr ⟨h3.symm, h⟩))
 ·rcases ZgI b.fCon.data.toList a.fCon.data.toList with ⟨k1, k2, k3⟩ | ⟨k1, k2, k3⟩ | ⟨k1, k2, k3⟩
  ·rw [bytesLess_eq, decide_eq_true_iff] at k2; exact .inr (.inr (.inl k2))
  ·rw [beq_iff_eq] at k3; rw [beq_eq_false_iff_ne] at h3; exact absurd k3.symm h3
  ·rw [bytesLess_eq, decide_eq_false_iff_not] at h2 k2
   rw [beq_eq_false_iff_ne] at h3
   exact absurd (List.le_antisymm (List.not_lt.1 k2) (List.not_lt.1 h2)) h3
theorem Zqo : SWO (ltOf Zg0) where
 irrefl x := by rw [Zic]; exact decide_eq_false (ZcT x)
 trans x y z h k := by rw [Zic, decide_eq_true_iff] at *; exact Zex h k
 ntrans x y z h k := by
  rw [Zic, decide_eq_false_iff_not] at *
  intro hxz
  rcases ZfR x y with h1 | rfl | h1
  ·exact h h1
  ·exact k hxz
  ·exact k (Zex h1 hxz)

theorem ZdB : Tryd.prog.cellsOf 41 = 2 := by kernel_rfl
theorem Zqc (X : List Ze) {i : Nat} {x : Ze} (h : X[i]? = some x) : X.toArray[i]! = x := by
 obtain ⟨hi, rfl⟩ := List.getElem?_eq_some_iff.1 h
 rw [getElem!_pos _ i (by simpa using hi)]; simp
theorem ZqD (x : Ze) : (Zcp x)[0]! = .string x.fCon := rfl
theorem ZqO (x : Ze) : (Zcp x)[1]! = .int .i64 x.fN := rfl
theorem ZrW (t : Nat) : ∃ i j, t = i * 2 + j ∧ j < 2 ∧ t / 2 = i ∧ t % 2 = j := ⟨t / 2, t % 2, by omega, by omega, rfl, rfl⟩
theorem Zlp {w : World} {S0 : Zu} {g : Nat} {X : List Ze} {cur : Array Value} (h1 : w.heap[g]? = some (.cells cur 41 (0, 0)))
  (h6 : ∀ (i j : Nat) (row : List E) (e : E), (X.map Ze.cells)[i]? = some row → row[j]? = some e → ∃ u, cur[i * Tryd.prog.cellsOf 41 + j]? = some u ∧ Zae w S0 e u) : HoldsK Zcp 2 w g 0 X.toArray := by
 intro t ht
 rw [size_flatK] at ht
 have ht' : t < X.length * 2 := by simpa using ht
 obtain ⟨i, j, e1, hj, e3, e4⟩ := ZrW t
 have hi : i < X.length := by omega
 have hx : X[i]? = some X[i] := List.getElem?_eq_getElem hi
 have hrow : (X.map Ze.cells)[i]? = some (X[i].cells) := by rw [List.getElem?_map, hx]; rfl
 rw [get_flatK _ _ _ _ ht, e3, e4, Zqc X hx]
 have hc : cur[t]? = some ((Zcp X[i])[j]!) := by
  match j, hj with
  | 0, _ =>
   obtain ⟨u, hu, hr⟩ := h6 i 0 _ (.v (.string X[i].fCon)) hrow rfl
   rw [ZdB] at hu
   rw [e1, hu, ZqD, Za2 hr]
  | 1, _ =>
   obtain ⟨u, hu, hr⟩ := h6 i 1 _ (.v (.int .i64 X[i].fN)) hrow rfl
   rw [ZdB] at hu
   rw [e1, hu, ZqO, Za2 hr]
 rw [Nat.zero_add]
 refine ⟨?_, ?_⟩
 ·simp only [World.cell?, h1]; exact hc
 ·simp [World.frozen?, h1]
theorem ZoJ {w : World} {g n : Nat} {cur : Array Value} {d0 d : Array Ze} {os : Array Obj} (h1 : w.heap[g]? = some (.cells cur 41 (0, 0))) (hg : g < w.heap.size) (hsz : d.size * 2 ≤ cur.size) :
  let w' := grow (putRowK Zcp 2 (Sort.ahead w n) g 0 d) os
  w'.os = w.os ∧ w'.tape = w.tape ∧ w'.output = w.output ∧ w.heap.size ≤ w'.heap.size ∧ (∀ b, b < w.heap.size → b ≠ g → w'.heap[b]? = w.heap[b]?) ∧
   ∃ cur' : Array Value, w'.heap[g]? = some (.cells cur' 41 (0, 0)) ∧ cur'.size = cur.size ∧ ∀ t, t < d.size * 2 → cur'[t]? = some ((flatK Zcp 2 d)[t]!) := by
 have hh : ∀ b, b < w.heap.size → (grow (putRowK Zcp 2 (Sort.ahead w n) g 0 d) os).heap[b]? = (w.heap.modify g (onCells (putCells id 0 (flatK Zcp 2 d))))[b]? := fun b hb => by
  show ((w.heap.modify g (onCells (putCells id 0 (flatK Zcp 2 d)))) ++ os)[b]? = _
  rw [Array.getElem?_append_left (by simpa using hb)]
 refine ⟨rfl, rfl, rfl, ?_, fun b hb hne => ?_, putCells id 0 (flatK Zcp 2 d) cur, ?_, ?_, fun t ht => ?_⟩
 ·show w.heap.size ≤ ((w.heap.modify g _) ++ os).size
  simp
 ·rw [hh b hb, Array.getElem?_modify, if_neg (fun e => hne e.symm)]
 ·rw [hh g hg, Array.getElem?_modify, if_pos rfl, h1]; rfl
 ·simp [putCells]
 ·have hc : t < cur.size := by omega
  simp only [putCells, Array.getElem?_mapIdx, Array.getElem?_eq_getElem hc, Option.map_some, size_flatK]
  rw [if_pos ⟨Nat.zero_le _, by omega⟩, Nat.sub_zero]
  rfl
theorem ZgR {w : World} {S0 : Zu} {d : Array Ze} {L : List Ze} {cur' : Array Value} (hc : ∀ t, t < d.size * 2 → cur'[t]? = some ((flatK Zcp 2 d)[t]!)) (hpre : ∀ (i : Nat) (x : Ze), L[i]? = some x → d[i]? = some x) :
  ∀ (i j : Nat) (row : List E) (e : E), (L.map Ze.cells)[i]? = some row → row[j]? = some e → ∃ u, cur'[i * Tryd.prog.cellsOf 41 + j]? = some u ∧ Zae w S0 e u := by
 intro i j row e hi hj
 rw [List.getElem?_map, Option.map_eq_some_iff] at hi
 obtain ⟨x, hx, rfl⟩ := hi
 have hd := hpre i x hx
 have hid : i < d.size := (Array.getElem?_eq_some_iff.1 hd).1
 have hdx : d[i]! = x := by rw [getElem!_pos d i hid]; exact (Array.getElem?_eq_some_iff.1 hd).2
 rw [ZdB]
 match j, hj with
 | 0, hj =>
  injection hj with hj; subst hj
  refine ⟨_, hc (i * 2 + 0) (by omega), ?_⟩
  rw [get_flatK _ _ _ _ (by omega), show (i * 2 + 0) / 2 = i by omega, show (i * 2 + 0) % 2 = 0 by omega, hdx, ZqD]
  exact .v _ rfl
 | 1, hj =>
  injection hj with hj; subst hj
  refine ⟨_, hc (i * 2 + 1) (by omega), ?_⟩
  rw [get_flatK _ _ _ _ (by omega), show (i * 2 + 1) / 2 = i by omega, show (i * 2 + 1) % 2 = 1 by omega, hdx, ZqO]
  exact .v _ rfl
 | j + 2, hj => simp [Ze.cells] at hj
theorem ZkK (L : List Ze) : ∀ (i : Nat) (row : List E), (L.map Ze.cells)[i]? = some row → row.length = Tryd.prog.cellsOf 41 := fun i row h => by
 rw [List.getElem?_map, Option.map_eq_some_iff] at h
 obtain ⟨x, _, rfl⟩ := h
 rw [ZdB]; rfl
def ZdX (l : List Ze) : List Ze := (pdq (ltOf Zg0) l.toArray 0 l.toArray.size (Lib.bitLen l.toArray.size) true true).toList
theorem ZiP (l : List Ze) : (ZdX l).Perm l := by
 have h := pdq_sorts (ltOf Zg0) Zqo l.toArray 0 l.toArray.size (Lib.bitLen l.toArray.size) true true (Nat.zero_le _) (Nat.le_refl _) (Or.inl rfl)
 have h1 := h.1.1
 have h2 := h.1.2.2
 have e1 : ∀ d : Array Ze, d.extract 0 d.size = d := fun d => by simp
 have e2 := e1 (pdq (ltOf Zg0) l.toArray 0 l.toArray.size (Lib.bitLen l.toArray.size) true true)
 rw [h1] at e2
 rw [e2, e1] at h2
 exact h2
theorem Zg5 (l : List Ze) : ∀ (i j : Nat) (x y : Ze), i < j → (ZdX l)[i]? = some x → (ZdX l)[j]? = some y → ¬ ltE y x := by
 have h := pdq_sorts (ltOf Zg0) Zqo l.toArray 0 l.toArray.size (Lib.bitLen l.toArray.size) true true (Nat.zero_le _) (Nat.le_refl _) (Or.inl rfl)
 intro i j x y hij hx hy
 have hs := h.1.1
 unfold ZdX at hx hy
 have hj : j < l.toArray.size := by rw [← hs]; exact (List.getElem?_eq_some_iff.1 hy).1
 have := h.2 i j (Nat.zero_le _) hij hj
 rw [Array.getElem?_toList] at hx hy
 have ex : (pdq (ltOf Zg0) l.toArray 0 l.toArray.size (Lib.bitLen l.toArray.size) true true)[i]! = x := by rw [getElem!_def, hx]
 have ey : (pdq (ltOf Zg0) l.toArray 0 l.toArray.size (Lib.bitLen l.toArray.size) true true)[j]! = y := by rw [getElem!_def, hy]
 rw [ex, ey, Zic, decide_eq_false_iff_not] at this
 exact this
def Zr (x : List Ze) : Option (List Ze) := if x.length ≤ 1000000000000 then some (ZdX x) else none
theorem ZdN (x : List Ze) : (ZdX x).length = x.length := (ZiP x).length_eq
theorem ZbM (x r : List Ze) (h : Zr x = some r) : Zr.M x r := by
 unfold Zr at h
 split at h
 case isFalse => cases h
 rename_i hlen
 injection h with h; subst h
 refine ⟨⟨_, Tryd.func64, by decide, rfl⟩, fun w S0 M0 ZT ρ hv hr => ?_⟩
 obtain ⟨a, b, rfl⟩ := ZoL hv
 have ha : Zz w S0 ρ (.rs 1000 x.length) a := hr.tmp 0
 obtain rfl := Za2 (show Zae w S0 (.v (.func (.func 65) #[] #[])) b from (show Zz w S0 ρ _ b from hr.tmp 1).val)
 have fin : ∀ (w' : World), Zn Tryd.prog w M0 S0 ⟨[(0, .tup [])], [(1000, [(none, .ob 82 ((ZdX x).map Ze.cells))])]⟩ #[.tuple #[]] w' S0 ρ →
   ∃ v r bx' St' ρ', Ending.returned (.tuple #[]) = .returned v ∧ (r = .tup [] ∧ bx' = [(1000, [(none, .ob 82 ((ZdX x).map Ze.cells))])]) ∧ (∀ n, EXT ≤ n → n < NEW → ρ' n = ρ n ∧ ρ' (CAP + n) = ρ (CAP + n)) ∧ Zn Tryd.prog w M0 S0 ⟨[(0, r)], bx'⟩ #[v] w' St' ρ' :=
  fun w' hR => ⟨_, _, _, S0, ρ, rfl, ⟨rfl, rfl⟩, fun _ _ _ => ⟨rfl, rfl⟩, hR⟩
 have htup : ∀ w' : World, ZaE w' S0 ρ (.tup []) (.tuple #[]) := fun w' => ⟨[], rfl, rfl, fun k x h => by simp at h⟩
 obtain ⟨hn, ⟨hp, hx⟩ | ⟨hp, hM, hS, hlt, cur, g1, g2, g3, g4, g5, g6⟩⟩ := ZgZ (k := 41) hr
 ·have hx : x = [] := by simpa using hx
  subst hx
  have hx0 : (ZdX []) = [] := List.length_eq_zero_iff.1 (by rw [ZdN]; rfl)
  have : ∃ A c, a = .slice A 0 c := by
   generalize hl : (([] : List Ze).length) = l at ha
   cases ha with
   | e _ _ ha => cases ha
   | rs0 _ A _ => exact ⟨A, 0, rfl⟩
   | rs _ _ h0 => omega
  obtain ⟨A, c, rfl⟩ := this
  refine (show Calls Tryd.prog 64 _ w _ from AnyF.slices_SortFunc_none Tryd.sortExc A c _ w).mono ?_
  rintro e w' ⟨rfl, rfl⟩
  refine fin w' ?_
  rw [hx0]
  exact Zn.rowNil (k := 41) (rows := []) hr hp (Below.refl _ _) (htup _) (fun _ _ h => by cases h)
 ·have : a = .slice (some ⟨ρ 1000, 0, none⟩) x.length (ρ (CAP + 1000)) := by
   generalize hl : x.length = l at ha
   cases ha with
   | e _ _ ha => cases ha
   | rs0 _ A h0 => omega
   | rs _ _ _ _ _ => rfl
  subst this
  rw [List.length_map] at g2
  have hH := Zlp (S0 := S0) g1 g6
  have hsz : x.toArray.size < 4611686018427387904 := by simp only [List.size_toArray]; omega
  have eg : ∀ args w, (callFunc 65 args).run Tryd.prog w = .ok (.enter 65 args) w := enters_of Tryd.func65 (by kernel_rfl) rfl
  have hc := AnyQ.slices_SortFunc_eq Tryd.sortExc 2 Tryd.isAgg41 Tryd.sizeOf41 Zcp ZkP Zls Zg0 Zqo 65 #[] (ρ 1000) 0 (ρ (CAP + 1000)) x.toArray w eg (fun m os dk _ x y => Zks x y _) hH hlt hsz
  refine (show Calls Tryd.prog 64 #[.slice (some ⟨ρ 1000, 0, none⟩) x.length (ρ (CAP + 1000)), .func (.func 65) #[] #[]] w _ from hc).mono ?_
  rintro e w' ⟨rfl, n, os, rfl⟩
  refine fin _ ?_
  have hps : (pdq (ltOf Zg0) x.toArray 0 x.toArray.size (Lib.bitLen x.toArray.size) true true).size = x.length := by have := ZdN x; unfold ZdX at this; simpa using this
  rw [ZdB] at g4
  obtain ⟨b1, b2, b3, b4, b5, cur', b6, b7, b8⟩ := ZoJ (n := n) (os := os) (d0 := x.toArray) (d := pdq (ltOf Zg0) x.toArray 0 x.toArray.size (Lib.bitLen x.toArray.size) true true) g1 hlt (by rw [hps]; omega)
  refine hr.rowAfter (k := 41) hp b1 b2 b3 b4 b5 b6 (by rw [b7, ZdB, g4]) (by rw [List.length_map, ZdN]; exact g2) (ZkK _) (ZgR b8 fun i y hy => ?_) (htup _) (fun _ _ h => by cases h)
  unfold ZdX at hy
  rwa [Array.getElem?_toList] at hy
theorem Znu {x r : List Ze} (h : Zr x = some r) : r.length = x.length := by
 unfold Zr at h
 split at h
 ·injection h with h; rw [← h, ZdN]
 ·cases h

theorem Zr5 : Tryd.prog.fieldsOf 41 = #[{ name := "Con", type := 9, offset := 0, embedded := false, tag := "", pkgPath := "", byteOffset := 0 }, { name := "N", type := 3, offset := 1, embedded := false, tag := "", pkgPath := "", byteOffset := 16 }] := by kernel_rfl
theorem Zr9 : Tryd.prog.underlying 41 = some (.struct (Tryd.prog.fieldsOf 41)) := by kernel_rfl
theorem Zrg : Tryd.prog.stoodInHeld 41 = false := by kernel_rfl
theorem Zrf : Tryd.prog.eqGuardType Tryd.prog.depth 41 = false := by kernel_rfl
theorem Zfy (a b : ByteArray) : (a.toList == b.toList) = decide (a = b) := by
 rw [ByteArray.toList_eq, ByteArray.toList_eq, Bool.eq_iff_iff, beq_iff_eq, decide_eq_true_iff]
 obtain ⟨⟨x⟩⟩ := a
 obtain ⟨⟨y⟩⟩ := b
 simp
theorem eqX (x y : Ze) (w : World) : (Op.equalIn 10000 41 (.agg (Zcp x).toArray) (.agg (Zcp y).toArray)).run Tryd.prog w = .ok (decide (x = y)) w := by
 have hd : decide (x = y) = (decide (x.fCon = y.fCon) && decide (x.fN = y.fN)) := by
  cases x; cases y; simp [Ze.mk.injEq, Bool.decide_and]
 rw [run_equalIn_agg w 9999 41 _ _ Zr9 Zrg, Zr5]
 have t9 : ∀ w, (isAgg 9).run Tryd.prog w = .ok false w := Tryd.isAgg9
 have t3 : ∀ w, (isAgg 3).run Tryd.prog w = .ok false w := Tryd.isAgg3
 have hs := fun (a b : ByteArray) w => run_equalIn_string (P := Tryd.prog) w 9998 9 a b Tryd.underlying9
 have hi := fun (a b : Int) w => run_equalIn_int (P := Tryd.prog) w 9998 3 .i64 .i64 a b Tryd.underlying3
 by_cases hc : x.fCon = y.fCon
 ·simp [Op.eqFields, part, Zcp, t9, t3, hs, hi, hd, Zfy, hc]
  split <;> simp [*]
 ·simp [Op.eqFields, part, Zcp, t9, t3, hs, hi, hd, Zfy, hc]
theorem Zq1 (x y : Ze) (w : World) : Sem.run Tryd.prog (binOp .eql 41 (.agg (Zcp x).toArray) (.agg (Zcp y).toArray)) w = .ok (.bool (decide (x = y))) w := by
 rw [run_eql_struct, eqX]; rfl
theorem Zsa (x y : Ze) (w : World) : Sem.run Tryd.prog (binOp .neq 41 (.agg (Zcp x).toArray) (.agg (Zcp y).toArray)) w = .ok (.bool (!decide (x = y))) w := by
 rw [run_neq_struct, eqX]; rfl
theorem Zrq (op : BinOp) (a b : Operand) (x y : Ze) (w : World) : Sem.run Tryd.prog (eqGuard op 41 a b (.agg (Zcp x).toArray) (.agg (Zcp y).toArray)) w = .ok () w := run_eqGuard_agg w op 41 a b _ _ Zrf
set_option maxHeartbeats 4000000 in
theorem Zkk (A : Option Addr) (c : Nat) (w : World) : Calls Tryd.prog 66 #[.slice A 0 c] w fun e w' => e = .returned (.slice A 0 c) ∧ w' = w := by
 go_enter Tryd.func66, Tryd.ntmps66
 go_wp2
 go_ret
 exact ⟨rfl, rfl⟩
def ZaM (s : List Ze) : Option (List Ze × List Ze) := if s.length ≤ 1000000000000 then some (compactUpTo s.toArray s.length, compactUpTo s.toArray s.length) else none
theorem Zfa (s : List Ze) (r : List Ze × List Ze) (h : ZaM s = some r) : ZaM.M s r := by
 unfold ZaM at h
 split at h
 case isFalse => cases h
 rename_i hlen
 injection h with h; subst h
 refine ⟨⟨_, Tryd.func66, by decide, rfl⟩, fun w S0 M0 ZT ρ hv hr => ?_⟩
 obtain ⟨a, rfl⟩ := ZqN hv
 have ha : Zz w S0 ρ (.rs 1000 s.length) a := hr.tmp 0
 have hle : (compactUpTo s.toArray s.length).length ≤ s.length := by
  have h := List.length_filter_le (keeps s.toArray) (List.range s.length)
  simpa [compactUpTo] using h
 generalize hL : compactUpTo s.toArray s.length = L at hle
 have fin : ∀ (w' : World) (v : Value), Zn Tryd.prog w M0 S0 ⟨[(0, .c none (.rs 1000 L.length))], [(1000, [(none, .ob 82 (L.map Ze.cells))])]⟩ #[v] w' S0 ρ →
   ∃ v' r bx' St' ρ', Ending.returned v = .returned v' ∧ (r = .c none (.rs 1000 L.length) ∧ bx' = [(1000, [(none, .ob 82 (L.map Ze.cells))])]) ∧ (∀ n, EXT ≤ n → n < NEW → ρ' n = ρ n ∧ ρ' (CAP + n) = ρ (CAP + n)) ∧ Zn Tryd.prog w M0 S0 ⟨[(0, r)], bx'⟩ #[v'] w' St' ρ' :=
  fun w' v hR => ⟨_, _, _, S0, ρ, rfl, ⟨rfl, rfl⟩, fun _ _ _ => ⟨rfl, rfl⟩, hR⟩
 obtain ⟨hn, ⟨hp, hx⟩ | ⟨hp, hM, hS, hlt, cur, g1, g2, g3, g4, g5, g6⟩⟩ := ZgZ (k := 41) hr
 ·have hx : s = [] := by simpa using hx
  subst hx
  obtain rfl : L = [] := List.length_eq_zero_iff.1 (by simpa using hle)
  have : ∃ A c, a = .slice A 0 c ∧ Zz w S0 ρ (.rs 1000 0) (.slice A 0 c) := by
   have ha0 := ha
   generalize hl : (([] : List Ze).length) = l at ha
   cases ha with
   | e _ _ ha => cases ha
   | rs0 _ A _ => exact ⟨A, 0, rfl, ha0⟩
   | rs _ _ h0 => omega
  obtain ⟨A, c, rfl, ha0⟩ := this
  refine (show Calls Tryd.prog 66 _ w _ from Zkk A c w).mono ?_
  rintro e w' ⟨rfl, rfl⟩
  refine fin w' _ ?_
  exact Zn.rowNil (k := 41) (rows := []) hr hp (Below.refl _ _) ha0 (fun _ _ h => by cases h)
 ·have : a = .slice (some ⟨ρ 1000, 0, none⟩) s.length (ρ (CAP + 1000)) := by
   generalize hl : s.length = l at ha
   cases ha with
   | e _ _ ha => cases ha
   | rs0 _ A h0 => omega
   | rs _ _ _ _ _ => rfl
  subst this
  rw [List.length_map] at g2
  have hH := Zlp (S0 := S0) g1 g6
  have hc := Znx Zcp 2 ZkP Zls Tryd.isAgg41 Tryd.sizeOf41 Zq1 Zsa Zrq ⟨ByteArray.mk #[], 0⟩ Tryd.zeroValue41 (ρ 1000) 0 (ρ (CAP + 1000)) s.toArray w hH (by simp only [List.size_toArray]; omega) (by simpa using g2)
  rw [show s.toArray.size = s.length from rfl, hL] at hc
  refine hc.mono ?_
  rintro e w' ⟨rfl, n, rfl⟩
  refine fin _ _ ?_
  rw [ZdB] at g4
  have hds : (L ++ List.replicate (s.length - L.length) (⟨ByteArray.mk #[], 0⟩ : Ze)).toArray.size = s.length := by simp; omega
  have hgr : grow (putRowK Zcp 2 (Sort.ahead w n) (ρ 1000) 0 (L ++ List.replicate (s.length - L.length) (⟨ByteArray.mk #[], 0⟩ : Ze)).toArray) #[] = putRowK Zcp 2 (Sort.ahead w n) (ρ 1000) 0 (L ++ List.replicate (s.length - L.length) (⟨ByteArray.mk #[], 0⟩ : Ze)).toArray := by
   simp [grow]
  obtain ⟨b1, b2, b3, b4, b5, cur', b6, b7, b8⟩ := ZoJ (n := n) (os := #[]) (d0 := s.toArray) (d := (L ++ List.replicate (s.length - L.length) (⟨ByteArray.mk #[], 0⟩ : Ze)).toArray) g1 hlt (by rw [hds]; omega)
  rw [hgr] at b1 b2 b3 b4 b5 b6
  refine hr.rowAfter (k := 41) hp b1 b2 b3 b4 b5 b6 (by rw [b7, ZdB, g4]) (by rw [List.length_map]; omega) (ZkK _) (ZgR b8 fun i y hy => ?_) (show Zz _ S0 ρ (.rs 1000 L.length) _ from .rs _ _ hp (by omega) g3) (fun _ _ h => by cases h)
  have hi : i < L.length := (List.getElem?_eq_some_iff.1 hy).1
  simpa [List.getElem?_append_left hi] using hy
theorem Zn.out {w w' : World} {M0 : Nat → Prop} {S0 : Zu} {ρ ρ' : Nat → Nat} {k n : Nat} {rows : List (List E)} {tm : List (Nat × D)} {ZT : Array Value} (h : Zn Tryd.prog w M0 S0 ⟨tm, []⟩ ZT w S0 ρ) (bel : Below w.heap.size w w') (hn : n < CAP)
  (hb : (ρ' (CAP + n) = 0 ∧ rows = []) ∨ (0 < ρ' (CAP + n) ∧ w.heap.size ≤ ρ' n ∧ Zbv Tryd.prog w' S0 ρ' n [(none, .ob (2 * k) rows)])) {r : D} {v : Value} (hr : ZaE w' S0 ρ' r v) (hrt : ∀ tk e, r ≠ .c (some tk) e) :
  Zn Tryd.prog w M0 S0 ⟨[(0, r)], [(n, [(none, .ob (2 * k) rows)])]⟩ #[v] w' S0 ρ' := by
 exact { glob := h.glob, os := bel.os, tape := bel.tape, output := bel.output, size := bel.size, old := fun b hb _ => bel.block b hb
         stay := fun b o hs => bel.cell (p := ⟨b, o, none⟩) (h.lt b o hs), up := fun _ _ hs => hs, dn := fun _ _ hs _ => .inl hs, lt := fun b o hs => Nat.lt_of_lt_of_le (h.lt b o hs) bel.size
         tmp := fun i => by
           simp only [AS.get, Am.look]
           split
           · rename_i h0; subst h0; exact hr
           · exact trivial
         nm := fun m cs hm => by
           simp only [AS.box, Am.look] at hm
           split at hm
           · rename_i h0; subst h0; exact hn
           · cases hm
         box := fun m cs hm => by
           simp only [AS.box, Am.look] at hm
           split at hm
           · rename_i h0; subst h0; injection hm with hm; subst hm
             rcases hb with ⟨h1, h2⟩ | ⟨h1, h2, h3⟩
             · exact .inl ⟨h1, k, by rw [h2]⟩
             · exact .inr ⟨h1, .inl h2, fun o hs => by have := h.lt _ _ hs; omega, h3⟩
           · cases hm
         inj := fun m m' cs ds hm hm' hne => by
           simp only [AS.box, Am.look] at hm hm'
           split at hm
           · split at hm'
             · rename_i e1 e2; exact absurd (e1.trans e2.symm) hne
             · cases hm'
           · cases hm
         own := fun t k' e u hh => (ZdF hrt hh).elim, apart := fun t k' e u t' k'' e' u' hh => (ZdF hrt hh).elim, ownbox := fun t k' e u m cs hh => (ZdF hrt hh).elim }
theorem ZoS : ∃ (i0 : TypeInfo) (z : Value), Tryd.prog.info? 41 = some i0 ∧ i0.zero = some z ∧ z.cells.size = 2 ∧ i0.size = 2 ∧ i0.bytes = 24 := by
 refine ⟨(Tryd.prog.info? 41).get (by kernel_rfl), .agg #[.string (ByteArray.mk #[]), .int .i64 0], ?_, ?_, ?_, ?_, ?_⟩
 all_goals kernel_rfl
def ZaX (n : Int) : Option (List Ze) := if 0 ≤ n ∧ n ≤ 1000000000000 then some [] else none
theorem Zgp (n : Int) (r : List Ze) (h : ZaX n = some r) : ZaX.M n r := by
 unfold ZaX at h
 split at h
 case isFalse => cases h
 rename_i hn
 injection h with h; subst h
 obtain ⟨m, rfl⟩ : ∃ m : Nat, n = m := ⟨n.toNat, by omega⟩
 refine ⟨⟨_, Tryd.func77, by decide, rfl⟩, fun w S0 M0 ZT ρ hv hr => ?_⟩
 obtain ⟨a, b, rfl⟩ := ZoL hv
 obtain rfl : a = .slice none 0 0 := by
  have h := (show Zz w S0 ρ .nils a from hr.tmp 0).plain rfl
  cases h; rfl
 obtain rfl := Za2 (show Zae w S0 (.v (.int .i64 (m : Int))) b from (show Zz w S0 ρ _ b from hr.tmp 1).val)
 have hcap : ∀ {i : Nat}, i < CAP → ¬ (i = CAP + 2000) := fun {i} h => by omega
 have far : ∀ (b c : Nat) (n : Nat), EXT ≤ n → n < NEW → Za5 ρ 2000 b c n = ρ n ∧ Za5 ρ 2000 b c (CAP + n) = ρ (CAP + n) := fun b c n h1 h2 => by
  unfold EXT NEW at *
  exact ⟨Zdz (by omega) (by unfold CAP; omega), ZdO (by omega) (by unfold CAP; omega)⟩
 have Zlt : 2000 < CAP := by decide
 rcases Nat.eq_zero_or_pos m with rfl | hm
 ·have hc := Any8.slices_Grow_room Tryd.growExc none 0 0 0 w (Nat.le_refl _) (by omega) (by omega) (by omega)
  refine (show Calls Tryd.prog 77 _ w _ from hc).mono ?_
  rintro e w' ⟨rfl, rfl⟩
  refine ⟨_, _, _, S0, Za5 ρ 2000 0 0, rfl, ⟨rfl, rfl⟩, far 0 0, ?_⟩
  exact Zn.out (k := 41) (rows := []) hr (Below.refl _ _) Zlt (.inl ⟨Zaw Zlt, rfl⟩) (show Zz _ S0 _ (.rs 2000 0) _ from .rs0 _ _ (Zaw Zlt)) (fun _ _ h => by cases h)
 ·obtain ⟨i0, z, hi, hz, hzs, his, hib⟩ := ZoS
  have hc := Any8.slices_Grow_grow Tryd.growExc i0 z hi hz (by rw [his]; decide) none 0 0 m [] w (Nat.le_refl _) (by simpa using hm) (by rw [hib]; have := hn.2; simp only [Nat.zero_add]; omega) (by have := hn.2; omega) (by simp) (fun _ => rfl) (fun a h => by cases h)
  rw [show Tryd.growExc_ren.t 25 = 41 from rfl] at hc
  refine (show Calls Tryd.prog 77 _ w _ from hc).mono ?_
  have hge := grownCap_ge w (0 + m) 0 41
  have hle := grownCap_le_maxLen w (0 + m) 0 41 (by have := hn.2; unfold maxLen; omega)
  rintro e w' ⟨rfl, rfl⟩
  generalize grownCap w (0 + m) 0 41 = cap at hge hle ⊢
  have hcap' : Za5 ρ 2000 w.heap.size cap (CAP + 2000) = cap := Zaw Zlt
  have hat : Za5 ρ 2000 w.heap.size cap 2000 = w.heap.size := Zbp
  refine ⟨_, _, _, S0, Za5 ρ 2000 w.heap.size cap, rfl, ⟨rfl, rfl⟩, far _ _, ?_⟩
  refine Zn.out (k := 41) (rows := []) hr ((Below.refl _ w).drew.alloc (Nat.le_refl _) _) Zlt (.inr ⟨by rw [hcap']; omega, by rw [hat]; exact Nat.le_refl _, ?_⟩) (show Zz _ S0 _ (.rs 2000 0) _ from ?_) (fun _ _ h => by cases h)
  ·refine .row 41 [] _ (by rw [hat]; exact heap_alloc_new w.drew _) (Nat.zero_le _) (by rw [hcap']; exact hle) ?_ (fun i row h => by simp at h) (fun i j row e h => by simp at h)
   rw [hcap', ZdB]
   simp only [Array.size_append, List.size_toArray, size_zeroCells, hzs, List.length_nil]
   omega
  ·have := Zz.rs (w := w.drew.alloc (.cells ((([] : List Value).toArray) ++ Builtin.zeroCells z.cells (0 + m - 0) ++ Builtin.zeroCells z.cells (cap - (0 + m))) 41)) (St := S0) (ρ := Za5 ρ 2000 w.heap.size cap) 2000 0 (by rw [hcap']; omega) (Nat.zero_le _) (by rw [hcap']; exact hle)
   rw [hcap', hat] at this
   exact this

set_option synthInstance.maxHeartbeats 1000000
set_option synthInstance.maxSize 1000
open Go Go.Am
def Zt (slices : (List (List Ze))) (ZgC : Nat) (ZbE : (List Ze)) (Zci : (List (List Ze))) : Option ((List Ze)) :=
 (match Zci with
 | x45 :: ZpU =>
 ZaF ((ZbE.length + x45.length) * 24 ≤ 140737488355328) >>= fun _ =>
 Zt slices (ZgC + 1) (ZbE ++ x45) ZpU
 | [] =>
 some ZbE)
 partial_fixpoint
def Zt.M (slices : (List (List Ze))) (ZgC : Nat) (ZbE : (List Ze)) (Zci : (List (List Ze))) (r : (List Ze)) : Prop :=
 ∀ ZgD : List (List Ze), slices = ZgD ++ Zci → ZgC = ZgD.length → slices.length ≤ maxLen → AWL Tryd.prog 36 (Code.sub (ZF Tryd.f63) [1, 1, 1, 1, 0, 1, 0, 0]) (Code.cont Tryd.prog 36 (ZF Tryd.f63) [1, 1, 1, 1, 0, 1, 0] (ZcP tab Tryd.f63.results (Zde (.c none (.rs 2000 r.length)) [(2000, [(none, .ob 82 (r.map Ze.cells))])]))) ⟨[(6, .c none (.rs 24 ZbE.length)), (25, .c none (.sl (slices.map Zbt))), (26, .c none (.v (.int .i64 ((slices.length : Nat) : Int)))), (27, .c none (.v (.int .i64 ((ZgC : Nat) : Int))))], [(24, [(none, .ob 82 (ZbE.map Ze.cells))])]⟩
theorem Zez (slices : (List (List Ze))) (ZgC : Nat) (ZbE : (List Ze)) (Zci : (List (List Ze))) : ∀ r, Zt slices ZgC ZbE Zci = some r → Zt.M slices ZgC ZbE Zci r := by
 refine Zt.partial_correctness slices (fun ZgC ZbE Zci r => Zt.M slices ZgC ZbE Zci r) ?_ ZgC ZbE Zci
 intro slices_Concat_Exc_l2' Zcd ZgC ZbE Zci r hF
 have ZeH := fun (_slices : (List (List Ze))) (ZgC : Nat) (ZbE : (List Ze)) (Zci : (List (List Ze))) => Zcd ZgC ZbE Zci
 clear Zcd
 unfold Zt.M
 intro ZgD ZmG Zmm hlen35
 refine AWL.step ?_
 refine AWP.seq ?_
 refine ns ?_
 refine AWP.seq ?_
 refine nw ?_
 refine Z6 ZmG Zmm (fun x45 ZpU Zpj ZpM Zq3 => ?_) (fun Zpj => ?_)
 ·subst Zpj
  refine nw ?_
  refine AWP.seq ?_
  refine AWP.block ?_
  refine AWP.seq ?_
  refine nn ?_
  refine sr (ZaD (f := Zbt) rfl ZpM) ?_
  refine st ?_
  obtain ⟨ZrF, hF⟩ := ZH hF
  refine nn ?_
  refine sa (fun l => ZaB l (fun x => Ze.cells_len x)) ZrF ?_
  refine Exists.intro (x45.map Ze.cells) (Exists.intro ((ZbE ++ x45).map Ze.cells) (Exists.intro (ZbE ++ x45).length (And.intro (WE.refl _) (And.intro (ZpE (by first | exact rfl | simp only [List.length_set])) (And.intro (Zqe (by first | exact rfl | simp only [List.length_set]) (by first | exact List.length_map _ | exact rfl)) ?_)))))
  refine st ?_
  refine ns ?_
  refine AWL.weak (rn []) ?_ (ZeH slices (ZgC + 1) (ZbE ++ x45) ZpU _ hF (ZgD ++ [x45]) (by rw [ZmG]; simp) (by rw [Zmm]; simp) hlen35)
  exact (WS.mk (Za (Zy (Zla (by first | exact rfl | simp only [List.length_set] | omega))) (tc (tc (Za (Zy (Zd2 (Zau hlen35 Zq3))) Zd)))) (Zi rfl (cc Zk) Zc))
 ·subst Zpj
  refine nw ?_
  refine AWP.seq ?_
  refine ns ?_
  obtain rfl := Zg hF
  refine ns ?_
  refine Exists.intro [(24, 2000)] ?_
  refine st ?_
  exact wx (WS.mk (Za (Zy (Zla (by first | exact rfl | simp only [List.length_set] | omega))) Zd) (Zi rfl (cc Zk) Zc))

def Zw (slices : (List (List Ze))) (Zb3 : Int) (ZgJ : Nat) (Zck : (List (List Ze))) : Option ((List Ze)) :=
 (match Zck with
 | x29 :: ZlL =>
 if (decide ((IntKind.i64.wrap (Zb3 + ((x29.length : Nat) : Int))) < 0)) = true then
 none
 else
 Zw slices (IntKind.i64.wrap (Zb3 + ((x29.length : Nat) : Int))) (ZgJ + 1) ZlL
 | [] =>
 ZaX Zb3 >>= fun r34 =>
 Zt slices 0 r34 slices)
 partial_fixpoint
def Zw.M (slices : (List (List Ze))) (Zb3 : Int) (ZgJ : Nat) (Zck : (List (List Ze))) (r : (List Ze)) : Prop :=
 ∀ Zgq : List (List Ze), slices = Zgq ++ Zck → ZgJ = Zgq.length → slices.length ≤ maxLen → AWL Tryd.prog 36 (Code.sub (ZF Tryd.f63) [1, 1, 0, 1, 0, 0]) (Code.cont Tryd.prog 36 (ZF Tryd.f63) [1, 1, 0, 1, 0] (ZcP tab Tryd.f63.results (Zde (.c none (.rs 2000 r.length)) [(2000, [(none, .ob 82 (r.map Ze.cells))])]))) ⟨[(0, .c none (.sl (slices.map Zbt))), (3, .c none (.v (.int .i64 Zb3))), (9, .c none (.sl (slices.map Zbt))), (10, .c none (.v (.int .i64 ((slices.length : Nat) : Int)))), (11, .c none (.v (.int .i64 ((ZgJ : Nat) : Int))))], []⟩
theorem ZeC (slices : (List (List Ze))) (Zb3 : Int) (ZgJ : Nat) (Zck : (List (List Ze))) : ∀ r, Zw slices Zb3 ZgJ Zck = some r → Zw.M slices Zb3 ZgJ Zck r := by
 refine Zw.partial_correctness slices (fun Zb3 ZgJ Zck r => Zw.M slices Zb3 ZgJ Zck r) ?_ Zb3 ZgJ Zck
 intro slices_Concat_Exc_l1' Zb8 Zb3 ZgJ Zck r hF
 have ZeA := fun (_slices : (List (List Ze))) (Zb3 : Int) (ZgJ : Nat) (Zck : (List (List Ze))) => Zb8 Zb3 ZgJ Zck
 clear Zb8
 unfold Zw.M
 intro Zgq ZmO ZmH hlen17
 refine AWL.step ?_
 refine AWP.seq ?_
 refine ns ?_
 refine AWP.seq ?_
 refine nw ?_
 refine Z6 ZmO ZmH (fun x29 ZlL ZlW Zqd Zp0 => ?_) (fun ZlW => ?_)
 ·subst ZlW
  refine nw ?_
  refine AWP.seq ?_
  refine AWP.block ?_
  refine AWP.seq ?_
  refine nn ?_
  refine sr (ZaD (f := Zbt) rfl Zqd) ?_
  refine st ?_
  refine AWP.seq ?_
  refine ns ?_
  intro hlen32
  (try rw [List.length_map] at hlen32)
  (try rw [List.length_map])
  refine st ?_
  refine AWP.seq ?_
  refine ns ?_
  refine nw ?_
  refine Zp hF (fun Zcm hF => ?_) (fun Zcm hF => ?_)
  ·cases hF
  ·refine nw ?_
   refine ns ?_
   refine AWL.weak (rn []) ?_ (ZeA slices (IntKind.i64.wrap (Zb3 + ((x29.length : Nat) : Int))) (ZgJ + 1) ZlL _ hF (Zgq ++ [x29]) (by rw [ZmO]; simp) (by rw [ZmH]; simp) hlen17)
   exact (WS.mk (tc (tc (tc (tc (Za (Zy (Zd2 (Zau hlen17 Zp0))) Zd))))) Zc)
 ·subst ZlW
  refine nw ?_
  refine AWP.seq ?_
  obtain ⟨r34, Zpl, hF⟩ := bind_some hF
  refine ns ?_
  refine Exists.intro [] (Exists.intro [] (Exists.intro [(2000, 24)] ?_))
  refine st ?_
  refine cm (Zj.weak (rn []) (Zgp Zb3 _ Zpl) rfl (WS.mk (tc (tc Zd)) Zc)) ?_
  refine st ?_
  refine AWP.seq ?_
  refine AWP.seq ?_
  refine ns ?_
  intro hlen35
  (try rw [List.length_map] at hlen35)
  (try rw [List.length_map])
  refine st ?_
  refine AWP.block ?_
  refine AWP.loop ?_
  refine AWL.weak (rn []) ?_ (Zez slices 0 r34 slices _ hF ([]) rfl rfl hlen35)
  exact (WS.mk (Za (Zy (Zla (by first | exact rfl | simp only [List.length_set] | omega))) (tc (tc (tc Zd)))) (Zi rfl (cc Zk) Zc))

def ZY (slices : (List (List Ze))) : Option ((List Ze)) :=
 Zw slices 0 0 slices
def ZY.M (slices : (List (List Ze))) (r : (List Ze)) : Prop :=
 Zj Tryd.prog 63 [.c none (.sl (slices.map Zbt))] [] (fun d b => d = .c none (.rs 2000 r.length) ∧ b = [(2000, [(none, .ob 82 (r.map Ze.cells))])])
theorem ZfG (slices : (List (List Ze))) (r : (List Ze)) (hF : ZY slices = some r) : ZY.M slices r := by
 unfold ZY at hF
 unfold ZY.M
 refine en Tryd.func63 ?_
 refine AWP.seq ?_
 refine ns ?_
 refine AWP.seq ?_
 refine ns ?_
 refine AWP.seq ?_
 refine AWP.seq ?_
 refine ns ?_
 intro hlen17
 (try rw [List.length_map] at hlen17)
 (try rw [List.length_map])
 refine st ?_
 refine AWP.block ?_
 refine AWP.loop ?_
 refine AWL.weak (rn []) ?_ (ZeC slices 0 0 slices _ hF ([]) rfl rfl hlen17)
 exact (WS.mk (tc (tc (tc (tc (tc Zd))))) Zc)

def ZaR (lists : (List (List Ze))) : Option (Zf) :=
 ZY lists >>= fun r1 =>
 Zr r1 >>= fun r2 =>
 ZaM r2 >>= fun r3 =>
 if (decide (((r3.2.length : Nat) : Int) > 16)) = true then
 Zbb >>= fun r9 =>
 some r9
 else
 some (Zf.mk false r3.2)
def ZaR.M (lists : (List (List Ze))) (r : Zf) : Prop :=
 Zj Tryd.prog 49 [.c none (.sl (lists.map Zbt))] [] (fun d b => d = .agg [.v (.bool r.fAll), .sl (r.fList.map Ze.cells)] ∧ b = [])
theorem ZeK (lists : (List (List Ze))) (r : Zf) (hF : ZaR lists = some r) : ZaR.M lists r := by
 unfold ZaR at hF
 unfold ZaR.M
 refine en Tryd.func49 ?_
 refine AWP.seq ?_
 refine ns ?_
 refine AWP.seq ?_
 obtain ⟨r1, hr1, hF⟩ := bind_some hF
 refine ns ?_
 refine Exists.intro [] (Exists.intro [] (Exists.intro [(2000, 5)] ?_))
 refine st ?_
 refine cm (Zj.weak (rn []) (ZfG lists _ hr1) rfl (WS.mk (tc Zd) Zc)) ?_
 refine st ?_
 refine AWP.seq ?_
 obtain ⟨r2, hr2, hF⟩ := bind_some hF
 have hlr2 := Znu hr2
 refine ns ?_
 refine Exists.intro [] (Exists.intro [(5, 1000)] (Exists.intro [] ?_))
 refine st ?_
 refine cm (Zj.weak (rn []) (ZbM r1 _ hr2) rfl (WS.mk (Za (Zy (Zla (by first | exact rfl | simp only [List.length_set] | omega))) (tc Zd)) (Zi rfl (cc Zk) Zc))) ?_
 refine st ?_
 refine AWP.seq ?_
 obtain ⟨r3, hr3, hF⟩ := bind_some hF
 refine ns ?_
 refine Exists.intro [] (Exists.intro [(5, 1000)] (Exists.intro [] ?_))
 refine st ?_
 refine cm (Zj.weak (rn []) (Zfa r2 _ hr3) rfl (WS.mk (Za (Zy (Zla (by first | exact rfl | simp only [List.length_set] | omega))) Zd) (Zi rfl (cc Zk) Zc))) ?_
 refine st ?_
 refine AWP.seq ?_
 refine AWP.seq ?_
 refine ns ?_
 intro hlen7
 (try rw [List.length_map] at hlen7)
 (try rw [List.length_map])
 refine st ?_
 refine AWP.freeze 3 5 41 rfl rfl (by simp only [List.length_map]) ?_
 refine AWP.force ?_
 (conv => whnf)
 refine nw ?_
 refine Zp hF (fun hc8 hF => ?_) (fun hc8 hF => ?_)
 ·refine AWP.seq ?_
  obtain ⟨r9, hr9, hF⟩ := bind_some hF
  refine ns ?_
  refine e3 ?_
  refine st ?_
  refine cm (Zj.weak (rn []) (Zek _ hr9) rfl (WS.mk Zd Zc)) ?_
  refine st ?_
  obtain rfl := Zg hF
  refine ns ?_
  refine Exists.intro [] ?_
  refine st ?_
  exact wx (WS.mk (Za (Zo (lc (lc Zm))) Zd) Zc)
 ·refine nw ?_
  refine AWP.seq ?_
  refine ns ?_
  obtain rfl := Zg hF
  refine ns ?_
  refine Exists.intro [] ?_
  refine st ?_
  exact wx (WS.mk (Za (Zo (lc (lc Zm))) Zd) Zc)

def Zar (a : Zf) (b : Zf) : Option (Zf) :=
 if (a.fAll || b.fAll) = true then
 Zbb >>= fun r5 =>
 some r5
 else
 ZaR ([a.fList, b.fList]) >>= fun r6 =>
 some r6
def Zar.M (a : Zf) (b : Zf) (r : Zf) : Prop :=
 Zj Tryd.prog 31 [.agg [.v (.bool a.fAll), .sl (a.fList.map Ze.cells)], .agg [.v (.bool b.fAll), .sl (b.fList.map Ze.cells)]] [] (fun d b => d = .agg [.v (.bool r.fAll), .sl (r.fList.map Ze.cells)] ∧ b = [])
theorem Zbf (a : Zf) (b : Zf) (r : Zf) (hF : Zar a b = some r) : Zar.M a b r := by
 unfold Zar at hF
 unfold Zar.M
 refine en Tryd.func31 ?_
 refine AWP.seq ?_
 refine ns ?_
 refine AWP.seq ?_
 refine AWP.seq ?_
 refine AWP.cutN (fun T => ∃ r, WS r T ⟨[(2, .ptr 2 0), (3, .ptr 3 0), (4, .ptr 4 0), (10, .c none (.v (.bool (a.fAll || b.fAll))))], [(2, [(none, .v (.bool a.fAll)), (none, .sl (a.fList.map Ze.cells))]), (3, [(none, .v (.bool b.fAll)), (none, .sl (b.fList.map Ze.cells))]), (4, [(none, .v (.bool false)), (none, .nils)])]⟩) ?_ (fun T hw => ?_)
 ·refine ns ?_
  refine Zh false (fun hc3 => ?_) (fun hc3 => ?_)
  ·(conv => whnf)
   refine st ?_
   exact wx (WS.mk (tp (tp (tp (Za (Zy (web hc3)) Zd)))) (Zi rfl (cc (cc Zk)) (Zi rfl (cc (cc Zk)) (Zi rfl (cc (cc Zk)) Zc))))
  ·(conv => whnf)
   refine st ?_
   exact wx (WS.mk (tp (tp (tp (Za (Zy (web hc3)) Zd)))) (Zi rfl (cc (cc Zk)) (Zi rfl (cc (cc Zk)) (Zi rfl (cc (cc Zk)) Zc))))
 obtain ⟨r0, hw⟩ := hw
 (conv => whnf)
 refine AWP.weak r0 hw ?_
 refine nw ?_
 refine Zp hF (fun hc4 hF => ?_) (fun hc4 hF => ?_)
 ·refine AWP.seq ?_
  obtain ⟨r5, hr5, hF⟩ := bind_some hF
  refine ns ?_
  refine e3 ?_
  refine st ?_
  refine cm (Zj.weak (rn []) (Zek _ hr5) rfl (WS.mk Zd Zc)) ?_
  refine st ?_
  obtain rfl := Zg hF
  refine ns ?_
  refine Exists.intro [] ?_
  refine st ?_
  exact wx (WS.mk (Za (Zo (lc (lc Zm))) Zd) Zc)
 ·refine nw ?_
  refine AWP.seq ?_
  obtain ⟨r6, hr6, hF⟩ := bind_some hF
  refine ns ?_
  refine Exists.intro _ (And.intro (Zaz (f := Zbt) (lc Zm) (Zaz (f := Zbt) (lc Zm) (ZC (f := Zbt)))) ?_)
  refine st ?_
  refine Exists.intro [16] (Exists.intro [] (Exists.intro [] ?_))
  refine st ?_
  refine cm (Zj.weak (rn []) (ZeK ([a.fList, b.fList]) _ hr6) rfl (WS.mk (tc Zd) Zc)) ?_
  refine st ?_
  obtain rfl := Zg hF
  refine ns ?_
  refine Exists.intro [] ?_
  refine st ?_
  exact wx (WS.mk (Za (Zo (lc (lc Zm))) Zd) Zc)

def ZbA (e : Ze) : Option (Zf) :=
 ZaR ([([e])]) >>= fun r1 =>
 some r1
def ZbA.M (e : Ze) (r : Zf) : Prop :=
 Zj Tryd.prog 27 [.agg [.v (.string e.fCon), .v (.int .i64 e.fN)]] [] (fun d b => d = .agg [.v (.bool r.fAll), .sl (r.fList.map Ze.cells)] ∧ b = [])
theorem Zf4 (e : Ze) (r : Zf) (hF : ZbA e = some r) : ZbA.M e r := by
 unfold ZbA at hF
 unfold ZbA.M
 refine en Tryd.func27 ?_
 refine AWP.seq ?_
 refine ns ?_
 refine AWP.seq ?_
 obtain ⟨r1, hr1, hF⟩ := bind_some hF
 refine ns ?_
 refine Exists.intro _ (And.intro (Zaz (f := Ze.cells) (ZhE (Ze.cells_eq e) (lc (lc Zm))) (ZC (f := Ze.cells))) ?_)
 refine st ?_
 refine Exists.intro _ (And.intro (Zaz (f := Zbt) (lc Zm) (ZC (f := Zbt))) ?_)
 refine st ?_
 refine Exists.intro [5] (Exists.intro [] (Exists.intro [] ?_))
 refine st ?_
 refine cm (Zj.weak (rn []) (ZeK ([([e])]) _ hr1) rfl (WS.mk (tc Zd) Zc)) ?_
 refine st ?_
 obtain rfl := Zg hF
 refine ns ?_
 refine Exists.intro [] ?_
 refine st ?_
 exact wx (WS.mk (Za (Zo (lc (lc Zm))) Zd) Zc)

def Zag (s : Zf) : Option (Bool) :=
 some (decide (((s.fList.length : Nat) : Int) ≤ 100))
def Zag.M (s : Zf) (r : Bool) : Prop :=
 Zj Tryd.prog 25 [.agg [.v (.bool s.fAll), .sl (s.fList.map Ze.cells)]] [] (fun d b => d = .c none (.v (.bool r)) ∧ b = [])
theorem Zbh (s : Zf) (r : Bool) (hF : Zag s = some r) : Zag.M s r := by
 unfold Zag at hF
 unfold Zag.M
 refine en Tryd.func25 ?_
 refine AWP.seq ?_
 refine ns ?_
 refine AWP.seq ?_
 refine ns ?_
 intro hlen1
 (try rw [List.length_map] at hlen1)
 (try rw [List.length_map])
 refine st ?_
 obtain rfl := Zg hF
 refine ns ?_
 refine Exists.intro [] ?_
 refine st ?_
 exact wx (WS.mk (tc Zd) Zc)

def ZA (i_5 : Nat) (a : Zf) (b : Zf) (Zah : (List Ze)) : Option (Bool) :=
 (match Zah with
 | x29 :: ZlL =>
 (b.fList[i_5]?) >>= fun x33 =>
 if (!((x29.fCon.toList == x33.fCon.toList) && ((x29.fN == x33.fN) && true))) = true then
 some false
 else
 ZA (i_5 + 1) a b ZlL
 | [] =>
 some true)
 partial_fixpoint
def ZA.M (i_5 : Nat) (a : Zf) (b : Zf) (Zah : (List Ze)) (r : Bool) : Prop :=
 ∀ ZbJ : List Ze, a.fList = ZbJ ++ Zah → i_5 = ZbJ.length → AWL Tryd.prog 38 (Code.sub (ZF Tryd.f26) [1, 1, 0, 1, 0, 0]) (Code.cont Tryd.prog 38 (ZF Tryd.f26) [1, 1, 0, 1, 0] (ZcP tab Tryd.f26.results (Zde (.c none (.v (.bool r))) []))) ⟨[(2, .ptr 2 0), (3, .ptr 3 0), (5, .c none (.v (.int .i64 ((i_5 : Nat) : Int))))], [(2, [(none, .v (.bool a.fAll)), (none, .sl (a.fList.map Ze.cells))]), (3, [(none, .v (.bool b.fAll)), (none, .sl (b.fList.map Ze.cells))])]⟩
theorem Zei (i_5 : Nat) (a : Zf) (b : Zf) (Zah : (List Ze)) : ∀ r, ZA i_5 a b Zah = some r → ZA.M i_5 a b Zah r := by
 refine ZA.partial_correctness a b (fun i_5 Zah r => ZA.M i_5 a b Zah r) ?_ i_5 Zah
 intro lazycref25_SameSet_l1' ZbV i_5 Zah r hF
 have Zej := fun (i_5 : Nat) (_a : Zf) (_b : Zf) (Zah : (List Ze)) => ZbV i_5 Zah
 clear ZbV
 unfold ZA.M
 intro ZbJ Zfu ZfA
 refine AWL.step ?_
 refine AWP.seq ?_
 refine AWP.seq ?_
 refine ns ?_
 intro hlen28
 (try rw [List.length_map] at hlen28)
 (try rw [List.length_map])
 refine st ?_
 refine nw ?_
 refine Z6 Zfu ZfA (fun x29 ZlL ZlW Zqd Zp0 => ?_) (fun ZlW => ?_)
 ·subst ZlW
  refine nw ?_
  refine AWP.seq ?_
  refine AWP.block ?_
  refine AWP.seq ?_
  obtain ⟨x33, Zrz, hF⟩ := bind_some hF
  refine nn ?_
  refine Or.inl (Exists.intro 10 (Exists.intro [[], [], [], [], [], [], [], [], [], []] (Exists.intro [([27, 28, 29, 30, 31, 32, 33, 34, 35, 36], [], []), ([28, 29, 30, 31, 32, 33, 34, 35, 36], [], []), ([27, 28, 29, 30, 31, 32, 33, 34, 35, 36], [], []), ([30, 31, 32, 33, 34, 35, 36], [], []), ([31, 32, 33, 34, 35, 36], [], []), ([27, 28, 29, 30, 31, 32, 33, 34, 35, 36], [], []), ([27, 28, 29, 30, 31, 33, 34, 35, 36], [], []), ([27, 28, 29, 30, 31, 32, 33, 34, 35, 36], [], []), ([27, 28, 29, 30, 31, 35, 36], [], []), ([27, 28, 29, 30, 31, 36], [], [])] (Exists.intro [27, 28, 29, 30, 31, 32, 33, 34, 35, 36] (And.intro (by decide +kernel) ?_)))))
  refine dp ?_
  refine dp ?_
  refine dp ?_
  refine dr (ZaD (Ze.cells_eq x29) Zqd) ?_
  refine dp ?_
  refine dp ?_
  refine dp ?_
  refine dp ?_
  refine dr (ZaD (Ze.cells_eq x33) Zrz) ?_
  refine dp ?_
  refine st ?_
  refine nw ?_
  refine Zp hF (fun ZfM hF => ?_) (fun ZfM hF => ?_)
  ·refine AWP.seq ?_
   refine ns ?_
   obtain rfl := Zg hF
   refine ns ?_
   refine Exists.intro [] ?_
   refine st ?_
   exact wx (WS.mk (tc Zd) Zc)
  ·refine nw ?_
   refine ns ?_
   refine AWL.weak (rn []) ?_ (Zej (i_5 + 1) a b ZlL _ hF (ZbJ ++ [x29]) (by rw [Zfu]; simp) (by rw [ZfA]; simp))
   exact (WS.mk (tp (tp (Za (Zy (Zd2 (Zau hlen28 Zp0))) Zd))) (Zi rfl (cc (cc Zk)) (Zi rfl (cc (cc Zk)) Zc)))
 ·subst ZlW
  refine nw ?_
  refine AWP.seq ?_
  refine ns ?_
  obtain rfl := Zg hF
  refine ns ?_
  refine Exists.intro [] ?_
  refine st ?_
  exact wx (WS.mk (tc Zd) Zc)

def ZG (a : Zf) (b : Zf) : Option (Bool) :=
 if ((!(a.fAll == b.fAll)) || (((a.fList.length : Nat) : Int) != ((b.fList.length : Nat) : Int))) = true then
 some false
 else
 ZA 0 a b a.fList
def ZG.M (a : Zf) (b : Zf) (r : Bool) : Prop :=
 Zj Tryd.prog 26 [.agg [.v (.bool a.fAll), .sl (a.fList.map Ze.cells)], .agg [.v (.bool b.fAll), .sl (b.fList.map Ze.cells)]] [] (fun d b => d = .c none (.v (.bool r)) ∧ b = [])
theorem ZaL (a : Zf) (b : Zf) (r : Bool) (hF : ZG a b = some r) : ZG.M a b r := by
 unfold ZG at hF
 unfold ZG.M
 refine en Tryd.func26 ?_
 refine AWP.seq ?_
 refine ns ?_
 refine AWP.seq ?_
 refine AWP.seq ?_
 refine AWP.cutN (fun T => ∃ r, WS r T ⟨[(2, .ptr 2 0), (3, .ptr 3 0), (19, .c none (.v (.bool ((!(a.fAll == b.fAll)) || (((a.fList.length : Nat) : Int) != ((b.fList.length : Nat) : Int))))))], [(2, [(none, .v (.bool a.fAll)), (none, .sl (a.fList.map Ze.cells))]), (3, [(none, .v (.bool b.fAll)), (none, .sl (b.fList.map Ze.cells))])]⟩) ?_ (fun T hw => ?_)
 ·refine ns ?_
  refine Zh false (fun hc6 => ?_) (fun hc6 => ?_)
  ·(conv => whnf)
   refine st ?_
   exact wx (WS.mk (tp (tp (Za (Zy (web hc6)) Zd))) (Zi rfl (cc (cc Zk)) (Zi rfl (cc (cc Zk)) Zc)))
  ·(conv => whnf)
   refine st ?_
   intro hlen4
   (try rw [List.length_map] at hlen4)
   (try rw [List.length_map])
   refine st ?_
   intro hlen5
   (try rw [List.length_map] at hlen5)
   (try rw [List.length_map])
   refine st ?_
   exact wx (WS.mk (tp (tp (Za (Zy (web hc6)) Zd))) (Zi rfl (cc (cc Zk)) (Zi rfl (cc (cc Zk)) Zc)))
 obtain ⟨r0, hw⟩ := hw
 (conv => whnf)
 refine AWP.weak r0 hw ?_
 refine nw ?_
 refine Zp hF (fun hc7 hF => ?_) (fun hc7 hF => ?_)
 ·refine AWP.seq ?_
  refine ns ?_
  obtain rfl := Zg hF
  refine ns ?_
  refine Exists.intro [] ?_
  refine st ?_
  exact wx (WS.mk (tc Zd) Zc)
 ·refine nw ?_
  refine AWP.seq ?_
  refine AWP.seq ?_
  refine ns ?_
  refine AWP.block ?_
  refine AWP.loop ?_
  refine AWL.weak (rn []) ?_ (Zei 0 a b a.fList _ hF ([]) rfl rfl)
  exact (WS.mk (tp (tp (tc Zd))) (Zi rfl (cc (cc Zk)) (Zi rfl (cc (cc Zk)) Zc)))

def Zba (e : Ze) : Option (Zf) :=
 some (Zf.mk false ([e]))
def Zba.M (e : Ze) (r : Zf) : Prop :=
 Zj Tryd.prog 28 [.agg [.v (.string e.fCon), .v (.int .i64 e.fN)]] [] (fun d b => d = .agg [.v (.bool r.fAll), .sl (r.fList.map Ze.cells)] ∧ b = [])
theorem ZgL (e : Ze) (r : Zf) (hF : Zba e = some r) : Zba.M e r := by
 unfold Zba at hF
 unfold Zba.M
 refine en Tryd.func28 ?_
 refine AWP.seq ?_
 refine ns ?_
 refine AWP.seq ?_
 refine ns ?_
 refine Exists.intro _ (And.intro (Zaz (f := Ze.cells) (ZhE (Ze.cells_eq e) (lc (lc Zm))) (ZC (f := Ze.cells))) ?_)
 refine st ?_
 obtain rfl := Zg hF
 refine ns ?_
 refine Exists.intro [] ?_
 refine st ?_
 exact wx (WS.mk (Za (Zo (lc (lc Zm))) Zd) Zc)

def Zao : Option (Zf) :=
 some (Zf.mk true ([] : List Ze))
def Zao.M (r : Zf) : Prop :=
 Zj Tryd.prog 30 [] [] (fun d b => d = .agg [.v (.bool r.fAll), .sl (r.fList.map Ze.cells)] ∧ b = [])
theorem ZcC (r : Zf) (hF : Zao = some r) : Zao.M r := by
 unfold Zao at hF
 unfold Zao.M
 refine en Tryd.func30 ?_
 refine AWP.seq ?_
 refine ns ?_
 refine AWP.seq ?_
 refine ns ?_
 obtain rfl := Zg hF
 refine ns ?_
 refine Exists.intro [] ?_
 refine st ?_
 exact wx (WS.mk (Za (Zo (lc (ZbH WE.nil Zm))) Zd) Zc)

def Z2 (l : (List Ze)) (e : Ze) (Zbg : (List Ze)) (i_6 : Nat) : Option ((List Ze)) :=
 (slL l ((i_6 : Nat) : Int) ((l.length : Nat) : Int)) >>= fun z71 =>
 ZaF (((Zbg ++ ([e])).length + z71.length) * 24 ≤ 140737488355328) >>= fun _ =>
 some ((Zbg ++ ([e])) ++ z71)
def Z2.M (l : (List Ze)) (e : Ze) (Zbg : (List Ze)) (i_6 : Nat) (r : (List Ze)) : Prop :=
 AWP Tryd.prog 52 (Code.sub (ZF Tryd.f50) [1, 1, 1, 1, 1, 1]) (Code.cont Tryd.prog 52 (ZF Tryd.f50) [1, 1, 1, 1, 1, 1] (ZcP tab Tryd.f50.results (Zde (.c (some (0, 41)) (.sl (r.map Ze.cells))) []))) ⟨[(0, .c none (.sl (l.map Ze.cells))), (5, .c (some (5, 41)) (.sl ((Zbg ++ ([e])).map Ze.cells))), (6, .c none (.v (.int .i64 ((i_6 : Nat) : Int))))], []⟩
theorem Zcy (l : (List Ze)) (e : Ze) (Zbg : (List Ze)) (i_6 : Nat) (r : (List Ze)) (hF : Z2 l e Zbg i_6 = some r) : Z2.M l e Zbg i_6 r := by
 unfold Z2 at hF
 unfold Z2.M
 refine AWP.seq ?_
 obtain ⟨z71, ZqE, Zqy, ZqL, ZqY, hF⟩ := Zog hF
 obtain ⟨Zrc, hF⟩ := ZH hF
 refine ns ?_
 rw [List.length_map]
 (repeat (first | ((conv => whnf); (with_reducible refine And.intro ?_ ?_); (focus (first | exact Eq.refl _ | exact trivial | (with_reducible assumption) | (with_reducible exact Int.natCast_nonneg _) | exact Nat.le_of_ble_eq_true (Eq.refl true) | exact Zbq (Eq.refl _) (Eq.refl _) (Eq.refl _) | decide))) | (with_reducible refine And.intro (by have h1 := ZqE; have h2 := Zqy; have h3 := ZqL; simp only [List.length_map] at h1 h2 h3 ⊢; omega) ?_)))
 refine And.intro (ZaB _ (fun x => Ze.cells_len x)) (And.intro rfl ?_)
 rw [Zl4 ZqY]
 refine sa (fun l => ZaB l (fun x => Ze.cells_len x)) Zrc ?_
 refine Exists.intro _ (And.intro (WE.refl _) ?_)
 rw [← List.map_append]
 refine st ?_
 obtain rfl := Zg hF
 refine ns ?_
 refine Exists.intro [] ?_
 refine st ?_
 exact Exists.intro (rn [(51, 0)]) (WS.mk (Za (Zaf rfl (WE.refl _)) Zd) Zc)

def ZaI (a : Ze) (b : Ze) : Option (Bool) :=
 some ((Op.bytesLess a.fCon.toList b.fCon.toList) || ((a.fCon.toList == b.fCon.toList) && (decide (a.fN < b.fN))))
def ZaI.M (a : Ze) (b : Ze) (r : Bool) : Prop :=
 Zj Tryd.prog 67 [.agg [.v (.string a.fCon), .v (.int .i64 a.fN)], .agg [.v (.string b.fCon), .v (.int .i64 b.fN)]] [] (fun d b => d = .c none (.v (.bool r)) ∧ b = [])
theorem Zgn (a : Ze) (b : Ze) (r : Bool) (hF : ZaI a b = some r) : ZaI.M a b r := by
 unfold ZaI at hF
 unfold ZaI.M
 refine en Tryd.func67 ?_
 refine AWP.seq ?_
 refine ns ?_
 refine AWP.seq ?_
 refine AWP.cutN (fun T => ∃ r, WS r T ⟨[(4, .c none (.v (.bool ((Op.bytesLess a.fCon.toList b.fCon.toList) || ((a.fCon.toList == b.fCon.toList) && (decide (a.fN < b.fN)))))))], []⟩) ?_ (fun T hw => ?_)
 ·refine ns ?_
  refine Zh false (fun hc1 => ?_) (fun hc1 => ?_)
  ·(conv => whnf)
   refine st ?_
   exact wx (WS.mk (Za (Zy (web hc1)) Zd) Zc)
  ·(conv => whnf)
   refine st ?_
   refine Zh true (fun hc2 => ?_) (fun hc2 => ?_)
   ·(conv => whnf)
    refine st ?_
    exact wx (WS.mk (Za (Zy (web (And.intro hc1 hc2))) Zd) Zc)
   ·(conv => whnf)
    refine st ?_
    exact wx (WS.mk (Za (Zy (web (And.intro hc1 hc2))) Zd) Zc)
 obtain ⟨r0, hw⟩ := hw
 (conv => whnf)
 refine AWP.weak r0 hw ?_
 obtain rfl := Zg hF
 refine ns ?_
 refine Exists.intro [] ?_
 refine st ?_
 exact wx (WS.mk (tc Zd) Zc)

def ZB (l : (List Ze)) (Zbg : (List Ze)) (i_6 : Nat) (e : Ze) : Option ((List Ze)) :=
 (if (decide (((i_6 : Nat) : Int) < ((l.length : Nat) : Int))) = true then (l[i_6]?) >>= fun x58 =>
 ZaI x58 e >>= fun r59 =>
 some r59 else some false) >>= fun c60 =>
 if c60 = true then
 (l[i_6]?) >>= fun x63 =>
 ZaF ((Zbg.length + ([x63]).length) * 24 ≤ 140737488355328) >>= fun _ =>
 ZaF (i_6 + 1 ≤ 9223372036854775807) >>= fun _ =>
 ZB l (Zbg ++ ([x63])) (i_6 + 1) e
 else
 ZaF ((Zbg.length + ([e]).length) * 24 ≤ 140737488355328) >>= fun _ =>
 (if (decide (((i_6 : Nat) : Int) < ((l.length : Nat) : Int))) = true then (l[i_6]?) >>= fun x73 =>
 some ((x73.fCon.toList == e.fCon.toList) && ((x73.fN == e.fN) && true)) else some false) >>= fun c74 =>
 if c74 = true then
 ZaF (i_6 + 1 ≤ 9223372036854775807) >>= fun _ =>
 Z2 l e Zbg (i_6 + 1)
 else
 Z2 l e Zbg i_6
 partial_fixpoint
def ZB.M (l : (List Ze)) (Zbg : (List Ze)) (i_6 : Nat) (e : Ze) (r : (List Ze)) : Prop :=
 AWL Tryd.prog 52 (Code.sub (ZF Tryd.f50) [1, 1, 1, 0, 0, 0]) (Code.cont Tryd.prog 52 (ZF Tryd.f50) [1, 1, 1, 0, 0] (ZcP tab Tryd.f50.results (Zde (.c (some (0, 41)) (.sl (r.map Ze.cells))) []))) ⟨[(0, .c none (.sl (l.map Ze.cells))), (3, .ptr 3 0), (5, .c (some (5, 41)) (.sl (Zbg.map Ze.cells))), (6, .c none (.v (.int .i64 ((i_6 : Nat) : Int))))], [(3, [(none, .v (.string e.fCon)), (none, .v (.int .i64 e.fN))])]⟩
theorem Zew (l : (List Ze)) (Zbg : (List Ze)) (i_6 : Nat) (e : Ze) : ∀ r, ZB l Zbg i_6 e = some r → ZB.M l Zbg i_6 e r := by
 refine ZB.partial_correctness l e (fun Zbg i_6 r => ZB.M l Zbg i_6 e r) ?_ Zbg i_6
 intro lazycref25_insert_l1' Zce Zbg i_6 r hF
 have ZeG := fun (_l : (List Ze)) (Zbg : (List Ze)) (i_6 : Nat) (_e : Ze) => Zce Zbg i_6
 clear Zce
 unfold ZB.M
 refine AWL.step ?_
 refine AWP.seq ?_
 refine AWP.seq ?_
 obtain ⟨c60, Zfc, hF⟩ := bind_some hF
 refine AWP.cutN (fun T => ∃ r, WS r T ⟨[(0, .c none (.sl (l.map Ze.cells))), (3, .ptr 3 0), (5, .c (some (5, 41)) (.sl (Zbg.map Ze.cells))), (6, .c none (.v (.int .i64 ((i_6 : Nat) : Int)))), (19, .c none (.v (.bool c60)))], [(3, [(none, .v (.string e.fCon)), (none, .v (.int .i64 e.fN))])]⟩) ?_ (fun T hw => ?_)
 ·refine nn ?_
  refine Or.inl (Exists.intro 10 (Exists.intro [[], [], [], [], [], [], [], [], [], []] (Exists.intro [([8, 9, 10, 11, 12, 13, 14, 15, 16, 17], [], []), ([8, 9, 10, 11, 12, 13, 14, 15, 16, 17], [], []), ([8, 10, 11, 12, 13, 14, 15, 16, 17], [], []), ([11, 12, 13, 14, 15, 16, 17], [], []), ([12, 13, 14, 15, 16, 17], [], []), ([13, 14, 15, 16, 17], [], []), ([13, 14, 15, 16, 17], [], []), ([15, 16, 17], [], []), ([16, 17], [], []), ([13, 14, 15, 16, 17], [], [])] (Exists.intro [8, 9, 10, 11, 12, 13, 14, 15, 16, 17] (And.intro (by decide +kernel) ?_)))))
  refine dp ?_
  refine dp ?_
  refine dl ?_
  refine dp ?_
  refine dp ?_
  refine st ?_
  refine Zh true (fun Zoj => ?_) (fun Zoj => ?_)
  ·have Zfc := ift Zoj Zfc
   obtain ⟨x58, ZqS, Zfc⟩ := bind_some Zfc
   obtain ⟨r59, ZrT, Zfc⟩ := bind_some Zfc
   (conv => whnf)
   refine dp ?_
   refine dp ?_
   refine dr (ZaD (Ze.cells_eq x58) ZqS) ?_
   refine dp ?_
   refine dp ?_
   refine st ?_
   refine e3 ?_
   refine st ?_
   refine cm (Zj.weak (rn []) (Zgn x58 e _ ZrT) rfl (WS.mk (Za (Zo (lc (lc Zm))) (Za (Zo (lc (lc Zm))) Zd)) Zc)) ?_
   refine st ?_
   obtain rfl := Zg Zfc
   refine st ?_
   exact Exists.intro (rn [(5, 5)]) (WS.mk (tc (tp (Za (Zaf rfl (WE.refl _)) (tc (Za (Zy (web Zoj)) Zd))))) (Zi rfl (cc (cc Zk)) Zc))
  ·have Zfc := ife Zoj Zfc
   (conv => whnf)
   obtain rfl := Zg Zfc
   refine st ?_
   exact Exists.intro (rn [(5, 5)]) (WS.mk (tc (tp (Za (Zaf rfl (WE.refl _)) (tc (Za (Zy (web Zoj)) Zd))))) (Zi rfl (cc (cc Zk)) Zc))
 obtain ⟨r0, hw⟩ := hw
 (conv => whnf)
 refine AWP.weak r0 hw ?_
 refine nw ?_
 refine Zp hF (fun Zqk hF => ?_) (fun Zqk hF => ?_)
 ·refine nw ?_
  refine AWP.block ?_
  refine AWP.seq ?_
  obtain ⟨x63, Zr2, hF⟩ := bind_some hF
  obtain ⟨Zq5, hF⟩ := ZH hF
  refine nn ?_
  refine sr (ZaD (f := Ze.cells) (Ze.cells_eq x63) Zr2) ?_
  refine st ?_
  refine Exists.intro _ (And.intro (Zaz (f := Ze.cells) (ZhE (Ze.cells_eq x63) (lc (lc Zm))) (ZC (f := Ze.cells))) ?_)
  refine sa (fun l => ZaB l (fun x => Ze.cells_len x)) Zq5 ?_
  refine Exists.intro _ (And.intro (WE.refl _) ?_)
  rw [← List.map_append]
  refine st ?_
  obtain ⟨ZrC, hF⟩ := ZH hF
  refine ns ?_
  refine AWL.weak (rn [(26, 5)]) ?_ (ZeG l (Zbg ++ ([x63])) (i_6 + 1) e _ hF)
  exact (WS.mk (tc (tp (Za (Zaf rfl (WE.refl _)) (Za (Zy (Zd2 (ZiU ZrC))) Zd)))) (Zi rfl (cc (cc Zk)) Zc))
 ·refine nw ?_
  refine AWP.seq ?_
  obtain ⟨Zpk, hF⟩ := ZH hF
  refine ns ?_
  refine Exists.intro _ (And.intro (Zaz (f := Ze.cells) (ZhE (Ze.cells_eq e) (lc (lc Zm))) (ZC (f := Ze.cells))) ?_)
  refine sa (fun l => ZaB l (fun x => Ze.cells_len x)) Zpk ?_
  refine Exists.intro _ (And.intro (WE.refl _) ?_)
  rw [← List.map_append]
  refine st ?_
  refine AWP.seq ?_
  refine AWP.seq ?_
  obtain ⟨c74, ZkH, hF⟩ := bind_some hF
  refine AWP.cutN (fun T => ∃ r, WS r T ⟨[(0, .c none (.sl (l.map Ze.cells))), (5, .c (some (5, 41)) (.sl ((Zbg ++ ([e])).map Ze.cells))), (6, .c none (.v (.int .i64 ((i_6 : Nat) : Int)))), (44, .c none (.v (.bool c74)))], []⟩) ?_ (fun T hw => ?_)
  ·refine nn ?_
   refine Or.inl (Exists.intro 10 (Exists.intro [[], [], [], [], [], [], [], [], [], []] (Exists.intro [([33, 34, 35, 36, 37, 38, 39, 40, 41, 42], [], []), ([33, 34, 35, 36, 37, 38, 39, 40, 41, 42], [], []), ([33, 35, 36, 37, 38, 39, 40, 41, 42], [], []), ([36, 37, 38, 39, 40, 41, 42], [], []), ([37, 38, 39, 40, 41, 42], [], []), ([38, 39, 40, 41, 42], [], []), ([38, 39, 40, 41, 42], [], []), ([40, 41, 42], [], []), ([41, 42], [], []), ([38, 39, 40, 41, 42], [], [])] (Exists.intro [33, 34, 35, 36, 37, 38, 39, 40, 41, 42] (And.intro (by decide +kernel) ?_)))))
   refine dp ?_
   refine dp ?_
   refine dl ?_
   refine dp ?_
   refine dp ?_
   refine st ?_
   refine Zh true (fun Zkr => ?_) (fun Zkr => ?_)
   ·have ZkH := ZmP (by first | assumption | exact Eq.refl _ | (simp only [Zkr, Bool.and_true, Bool.true_and, Bool.and_false, Bool.false_and, Bool.or_true, Bool.true_or, Bool.or_false, Bool.false_or, Bool.not_true, Bool.not_false, cond_true, cond_false, List.length_map]; done) | ((try simp only [Bool.and_true, Bool.true_and, Bool.and_false, Bool.false_and, Bool.or_true, Bool.true_or, Bool.or_false, Bool.false_or, Bool.not_true, Bool.not_false, cond_true, cond_false, List.length_map] at Zkr); (try simp only [Bool.and_true, Bool.true_and, Bool.and_false, Bool.false_and, Bool.or_true, Bool.true_or, Bool.or_false, Bool.false_or, Bool.not_true, Bool.not_false, cond_true, cond_false, List.length_map]); simp only [Zkr, Bool.and_true, Bool.true_and, Bool.and_false, Bool.false_and, Bool.or_true, Bool.true_or, Bool.or_false, Bool.false_or, Bool.not_true, Bool.not_false, cond_true, cond_false, List.length_map])) ZkH
    obtain ⟨x73, Zrl, ZkH⟩ := bind_some ZkH
    (conv => whnf)
    refine dp ?_
    refine dp ?_
    refine dr (ZaD (Ze.cells_eq x73) Zrl) ?_
    refine dp ?_
    refine dp ?_
    obtain rfl := Zg ZkH
    refine st ?_
    exact Exists.intro (rn [(32, 5)]) (WS.mk (tc (Za (Zaf rfl (WE.refl _)) (tc (Za (Zy (web Zkr)) Zd)))) Zc)
   ·have ZkH := ZmR (by first | assumption | exact Eq.refl _ | (simp only [Zkr, Bool.and_true, Bool.true_and, Bool.and_false, Bool.false_and, Bool.or_true, Bool.true_or, Bool.or_false, Bool.false_or, Bool.not_true, Bool.not_false, cond_true, cond_false, List.length_map]; done) | ((try simp only [Bool.and_true, Bool.true_and, Bool.and_false, Bool.false_and, Bool.or_true, Bool.true_or, Bool.or_false, Bool.false_or, Bool.not_true, Bool.not_false, cond_true, cond_false, List.length_map] at Zkr); (try simp only [Bool.and_true, Bool.true_and, Bool.and_false, Bool.false_and, Bool.or_true, Bool.true_or, Bool.or_false, Bool.false_or, Bool.not_true, Bool.not_false, cond_true, cond_false, List.length_map]); simp only [Zkr, Bool.and_true, Bool.true_and, Bool.and_false, Bool.false_and, Bool.or_true, Bool.true_or, Bool.or_false, Bool.false_or, Bool.not_true, Bool.not_false, cond_true, cond_false, List.length_map])) ZkH
    (conv => whnf)
    obtain rfl := Zg ZkH
    refine st ?_
    exact Exists.intro (rn [(32, 5)]) (WS.mk (tc (Za (Zaf rfl (WE.refl _)) (tc (Za (Zy (web Zkr)) Zd)))) Zc)
  obtain ⟨r0, hw⟩ := hw
  (conv => whnf)
  refine AWP.weak r0 hw ?_
  refine nw ?_
  refine Zp hF (fun ZqZ hF => ?_) (fun ZqZ hF => ?_)
  ·obtain ⟨Zrn, hF⟩ := ZH hF
   refine ns ?_
   refine AWP.weak (rn [(5, 5)]) ?_ (Zcy l e Zbg (i_6 + 1) _ hF)
   exact (WS.mk (tc (Za (Zaf rfl (WE.refl _)) (Za (Zy (Zd2 (ZiU Zrn))) Zd))) Zc)
  ·refine nw ?_
   refine AWP.weak (rn [(5, 5)]) ?_ (Zcy l e Zbg i_6 _ hF)
   exact (WS.mk (tc (Za (Zaf rfl (WE.refl _)) (tc Zd))) Zc)

def Zal (l : (List Ze)) (e : Ze) : Option ((List Ze)) :=
 ZB l ([] : List Ze) 0 e
def Zal.M (l : (List Ze)) (e : Ze) (r : (List Ze)) : Prop :=
 Zj Tryd.prog 50 [.c none (.sl (l.map Ze.cells)), .agg [.v (.string e.fCon), .v (.int .i64 e.fN)]] [] (fun d b => d = .c (some (0, 41)) (.sl (r.map Ze.cells)) ∧ b = [])
theorem Zdf (l : (List Ze)) (e : Ze) (r : (List Ze)) (hF : Zal l e = some r) : Zal.M l e r := by
 unfold Zal at hF
 unfold Zal.M
 refine en Tryd.func50 ?_
 refine AWP.seq ?_
 refine ns ?_
 refine AWP.seq ?_
 refine ns ?_
 refine Exists.intro _ (And.intro (ZC (f := Ze.cells)) ?_)
 refine st ?_
 refine AWP.seq ?_
 refine ns ?_
 refine AWP.seq ?_
 refine AWP.block ?_
 refine AWP.loop ?_
 refine AWL.weak (rn [(7, 5)]) ?_ (Zew l ([] : List Ze) 0 e _ hF)
 exact (WS.mk (tc (tp (Za (Zaf rfl (WE.refl _)) (tc Zd)))) (Zi rfl (cc (cc Zk)) Zc))

def ZK (l_5 : (List Ze)) (i_7 : Nat) (b : Zf) (Zdu : (List Ze)) : Option (Zf) :=
 (match Zdu with
 | x76 :: ZpS =>
 Zal l_5 x76 >>= fun r79 =>
 ZK r79 (i_7 + 1) b ZpS
 | [] =>
 if (decide (((l_5.length : Nat) : Int) > 16)) = true then
 Zao >>= fun r85 =>
 some r85
 else
 some (Zf.mk false l_5))
 partial_fixpoint
def ZK.M (l_5 : (List Ze)) (i_7 : Nat) (b : Zf) (Zdu : (List Ze)) (r : Zf) : Prop :=
 ∀ Zh7 : List Ze, b.fList = Zh7 ++ Zdu → i_7 = Zh7.length → AWL Tryd.prog 50 (Code.sub (ZF Tryd.f32) [1, 1, 1, 1, 0, 1, 0, 0]) (Code.cont Tryd.prog 50 (ZF Tryd.f32) [1, 1, 1, 1, 0, 1, 0] (ZcP tab Tryd.f32.results (Zde (.agg [.v (.bool r.fAll), .sl (r.fList.map Ze.cells)]) []))) ⟨[(3, .ptr 3 0), (4, .ptr 4 0), (5, .c (some (5, 41)) (.sl (l_5.map Ze.cells))), (7, .c none (.v (.int .i64 ((i_7 : Nat) : Int))))], [(3, [(none, .v (.bool b.fAll)), (none, .sl (b.fList.map Ze.cells))]), (4, [(none, .v (.bool false)), (none, .nils)])]⟩
theorem ZeN (l_5 : (List Ze)) (i_7 : Nat) (b : Zf) (Zdu : (List Ze)) : ∀ r, ZK l_5 i_7 b Zdu = some r → ZK.M l_5 i_7 b Zdu r := by
 refine ZK.partial_correctness b (fun l_5 i_7 Zdu r => ZK.M l_5 i_7 b Zdu r) ?_ l_5 i_7 Zdu
 intro lazycref25_Union_l2' Zcx l_5 i_7 Zdu r hF
 have Ze0 := fun (l_5 : (List Ze)) (i_7 : Nat) (_b : Zf) (Zdu : (List Ze)) => Zcx l_5 i_7 Zdu
 clear Zcx
 unfold ZK.M
 intro Zh7 Znz ZoE
 refine AWL.step ?_
 refine AWP.seq ?_
 refine AWP.seq ?_
 refine ns ?_
 intro hlen75
 (try rw [List.length_map] at hlen75)
 (try rw [List.length_map])
 refine st ?_
 refine nw ?_
 refine Z6 Znz ZoE (fun x76 ZpS ZpY Zri Zq6 => ?_) (fun ZpY => ?_)
 ·subst ZpY
  refine nw ?_
  refine AWP.seq ?_
  refine AWP.block ?_
  obtain ⟨r79, Zrp, hF⟩ := bind_some hF
  refine nn ?_
  refine sr (ZaD (f := Ze.cells) (Ze.cells_eq x76) Zri) ?_
  refine st ?_
  refine Exists.intro [5] (Exists.intro [] (Exists.intro [] ?_))
  refine st ?_
  refine cm (Zj.weak (rn []) (Zdf l_5 x76 _ Zrp) rfl (WS.mk (tc (Za (Zo (lc (lc Zm))) Zd)) Zc)) ?_
  refine st ?_
  refine ns ?_
  refine AWL.weak (rn [(43, 5)]) ?_ (Ze0 r79 (i_7 + 1) b ZpS _ hF (Zh7 ++ [x76]) (by rw [Znz]; simp) (by rw [ZoE]; simp))
  exact (WS.mk (tp (tp (Za (Zaf rfl (WE.refl _)) (Za (Zy (Zd2 (Zau hlen75 Zq6))) Zd)))) (Zi rfl (cc (cc Zk)) (Zi rfl (cc (cc Zk)) Zc)))
 ·subst ZpY
  refine nw ?_
  refine AWP.seq ?_
  refine AWP.seq ?_
  refine ns ?_
  intro hlen83
  (try rw [List.length_map] at hlen83)
  (try rw [List.length_map])
  refine st ?_
  refine nw ?_
  refine Zp hF (fun ZrG hF => ?_) (fun ZrG hF => ?_)
  ·refine AWP.seq ?_
   obtain ⟨r85, ZrR, hF⟩ := bind_some hF
   refine ns ?_
   refine e3 ?_
   refine st ?_
   refine cm (Zj.weak (rn []) (ZcC _ ZrR) rfl (WS.mk Zd Zc)) ?_
   refine st ?_
   obtain rfl := Zg hF
   refine ns ?_
   refine Exists.intro [] ?_
   refine st ?_
   exact wx (WS.mk (Za (Zo (lc (lc Zm))) Zd) Zc)
  ·refine nw ?_
   refine AWP.seq ?_
   refine ns ?_
   obtain rfl := Zg hF
   refine ns ?_
   refine Exists.intro [] ?_
   refine st ?_
   exact wx (WS.mk (Za (Zo (lc (lc Zm))) Zd) Zc)

def ZJ (l_5 : (List Ze)) (i_6 : Nat) (a : Zf) (b : Zf) (Zds : (List Ze)) : Option (Zf) :=
 (match Zds with
 | x39 :: ZlI =>
 Zal l_5 x39 >>= fun r42 =>
 ZJ r42 (i_6 + 1) a b ZlI
 | [] =>
 ZK l_5 0 b b.fList)
 partial_fixpoint
def ZJ.M (l_5 : (List Ze)) (i_6 : Nat) (a : Zf) (b : Zf) (Zds : (List Ze)) (r : Zf) : Prop :=
 ∀ Zid : List Ze, a.fList = Zid ++ Zds → i_6 = Zid.length → AWL Tryd.prog 50 (Code.sub (ZF Tryd.f32) [1, 1, 1, 0, 1, 0, 0]) (Code.cont Tryd.prog 50 (ZF Tryd.f32) [1, 1, 1, 0, 1, 0] (ZcP tab Tryd.f32.results (Zde (.agg [.v (.bool r.fAll), .sl (r.fList.map Ze.cells)]) []))) ⟨[(2, .ptr 2 0), (3, .ptr 3 0), (4, .ptr 4 0), (5, .c (some (5, 41)) (.sl (l_5.map Ze.cells))), (6, .c none (.v (.int .i64 ((i_6 : Nat) : Int))))], [(2, [(none, .v (.bool a.fAll)), (none, .sl (a.fList.map Ze.cells))]), (3, [(none, .v (.bool b.fAll)), (none, .sl (b.fList.map Ze.cells))]), (4, [(none, .v (.bool false)), (none, .nils)])]⟩
theorem ZeL (l_5 : (List Ze)) (i_6 : Nat) (a : Zf) (b : Zf) (Zds : (List Ze)) : ∀ r, ZJ l_5 i_6 a b Zds = some r → ZJ.M l_5 i_6 a b Zds r := by
 refine ZJ.partial_correctness a b (fun l_5 i_6 Zds r => ZJ.M l_5 i_6 a b Zds r) ?_ l_5 i_6 Zds
 intro lazycref25_Union_l1' Zcu l_5 i_6 Zds r hF
 have Ze5 := fun (l_5 : (List Ze)) (i_6 : Nat) (_a : Zf) (_b : Zf) (Zds : (List Ze)) => Zcu l_5 i_6 Zds
 clear Zcu
 unfold ZJ.M
 intro Zid ZnS ZnW
 refine AWL.step ?_
 refine AWP.seq ?_
 refine AWP.seq ?_
 refine ns ?_
 intro hlen38
 (try rw [List.length_map] at hlen38)
 (try rw [List.length_map])
 refine st ?_
 refine nw ?_
 refine Z6 ZnS ZnW (fun x39 ZlI ZlZ Zqb ZpD => ?_) (fun ZlZ => ?_)
 ·subst ZlZ
  refine nw ?_
  refine AWP.seq ?_
  refine AWP.block ?_
  obtain ⟨r42, Zqp, hF⟩ := bind_some hF
  refine nn ?_
  refine sr (ZaD (f := Ze.cells) (Ze.cells_eq x39) Zqb) ?_
  refine st ?_
  refine Exists.intro [5] (Exists.intro [] (Exists.intro [] ?_))
  refine st ?_
  refine cm (Zj.weak (rn []) (Zdf l_5 x39 _ Zqp) rfl (WS.mk (tc (Za (Zo (lc (lc Zm))) Zd)) Zc)) ?_
  refine st ?_
  refine ns ?_
  refine AWL.weak (rn [(29, 5)]) ?_ (Ze5 r42 (i_6 + 1) a b ZlI _ hF (Zid ++ [x39]) (by rw [ZnS]; simp) (by rw [ZnW]; simp))
  exact (WS.mk (tp (tp (tp (Za (Zaf rfl (WE.refl _)) (Za (Zy (Zd2 (Zau hlen38 ZpD))) Zd))))) (Zi rfl (cc (cc Zk)) (Zi rfl (cc (cc Zk)) (Zi rfl (cc (cc Zk)) Zc))))
 ·subst ZlZ
  refine nw ?_
  refine AWP.seq ?_
  refine AWP.seq ?_
  refine ns ?_
  refine AWP.block ?_
  refine AWP.loop ?_
  refine AWL.weak (rn [(5, 5)]) ?_ (ZeN l_5 0 b b.fList _ hF ([]) rfl rfl)
  exact (WS.mk (tp (tp (Za (Zaf rfl (WE.refl _)) (tc Zd)))) (Zi rfl (cc (cc Zk)) (Zi rfl (cc (cc Zk)) Zc)))

def ZaA (a : Zf) (b : Zf) : Option (Zf) :=
 if (a.fAll || b.fAll) = true then
 Zao >>= fun r5 =>
 some r5
 else
 ZJ ([] : List Ze) 0 a b a.fList
def ZaA.M (a : Zf) (b : Zf) (r : Zf) : Prop :=
 Zj Tryd.prog 32 [.agg [.v (.bool a.fAll), .sl (a.fList.map Ze.cells)], .agg [.v (.bool b.fAll), .sl (b.fList.map Ze.cells)]] [] (fun d b => d = .agg [.v (.bool r.fAll), .sl (r.fList.map Ze.cells)] ∧ b = [])
theorem Zf1 (a : Zf) (b : Zf) (r : Zf) (hF : ZaA a b = some r) : ZaA.M a b r := by
 unfold ZaA at hF
 unfold ZaA.M
 refine en Tryd.func32 ?_
 refine AWP.seq ?_
 refine ns ?_
 refine AWP.seq ?_
 refine AWP.seq ?_
 refine AWP.cutN (fun T => ∃ r, WS r T ⟨[(2, .ptr 2 0), (3, .ptr 3 0), (4, .ptr 4 0), (13, .c none (.v (.bool (a.fAll || b.fAll))))], [(2, [(none, .v (.bool a.fAll)), (none, .sl (a.fList.map Ze.cells))]), (3, [(none, .v (.bool b.fAll)), (none, .sl (b.fList.map Ze.cells))]), (4, [(none, .v (.bool false)), (none, .nils)])]⟩) ?_ (fun T hw => ?_)
 ·refine ns ?_
  refine Zh false (fun hc3 => ?_) (fun hc3 => ?_)
  ·(conv => whnf)
   refine st ?_
   exact wx (WS.mk (tp (tp (tp (Za (Zy (web hc3)) Zd)))) (Zi rfl (cc (cc Zk)) (Zi rfl (cc (cc Zk)) (Zi rfl (cc (cc Zk)) Zc))))
  ·(conv => whnf)
   refine st ?_
   exact wx (WS.mk (tp (tp (tp (Za (Zy (web hc3)) Zd)))) (Zi rfl (cc (cc Zk)) (Zi rfl (cc (cc Zk)) (Zi rfl (cc (cc Zk)) Zc))))
 obtain ⟨r0, hw⟩ := hw
 (conv => whnf)
 refine AWP.weak r0 hw ?_
 refine nw ?_
 refine Zp hF (fun hc4 hF => ?_) (fun hc4 hF => ?_)
 ·refine AWP.seq ?_
  obtain ⟨r5, hr5, hF⟩ := bind_some hF
  refine ns ?_
  refine e3 ?_
  refine st ?_
  refine cm (Zj.weak (rn []) (ZcC _ hr5) rfl (WS.mk Zd Zc)) ?_
  refine st ?_
  obtain rfl := Zg hF
  refine ns ?_
  refine Exists.intro [] ?_
  refine st ?_
  exact wx (WS.mk (Za (Zo (lc (lc Zm))) Zd) Zc)
 ·refine nw ?_
  refine AWP.seq ?_
  refine ns ?_
  refine Exists.intro _ (And.intro (ZC (f := Ze.cells)) ?_)
  refine st ?_
  refine AWP.seq ?_
  refine AWP.seq ?_
  refine ns ?_
  refine AWP.block ?_
  refine AWP.loop ?_
  refine AWL.weak (rn [(15, 5)]) ?_ (ZeL ([] : List Ze) 0 a b a.fList _ hF ([]) rfl rfl)
  exact (WS.mk (tp (tp (tp (Za (Zaf rfl (WE.refl _)) (tc Zd))))) (Zi rfl (cc (cc Zk)) (Zi rfl (cc (cc Zk)) (Zi rfl (cc (cc Zk)) Zc))))

open Go Go.Am Go.Lib
def SS (l : List Ze) : Prop := l.Pairwise ltE
theorem ZfS : ∀ l m : List Ze, SS l → SS m → (∀ x, x ∈ l ↔ x ∈ m) → l = m
 | [], [], _, _, _ => rfl
 | [], y :: m, _, _, h => absurd ((h y).2 (by simp)) (by simp)
 | x :: l, [], _, _, h => absurd ((h x).1 (by simp)) (by simp)
 | x :: l, y :: m, hl, hm, h => by
  have hl' := List.pairwise_cons.1 hl
  have hm' := List.pairwise_cons.1 hm
  have hxy : x = y := by
   rcases List.mem_cons.1 ((h x).1 (by simp)) with e | hx
   ·exact e
   ·rcases List.mem_cons.1 ((h y).2 (by simp)) with e | hy
    ·exact e.symm
    ·exact absurd (Zex (hm'.1 x hx) (hl'.1 y hy)) (ZcT _)
  subst hxy
  congr 1
  refine ZfS l m hl'.2 hm'.2 fun z => ⟨fun hz => ?_, fun hz => ?_⟩
  ·rcases List.mem_cons.1 ((h z).1 (by simp [hz])) with e | hz'
   ·exact absurd (e ▸ hl'.1 z hz) (ZcT _)
   ·exact hz'
  ·rcases List.mem_cons.1 ((h z).2 (by simp [hz])) with e | hz'
   ·exact absurd (e ▸ hm'.1 z hz) (ZcT _)
   ·exact hz'
theorem ZnL : ∀ m l : List Ze, SS l → SS m → (∀ x, x ∈ l → x ∈ m) → l.length ≤ m.length
 | _, [], _, _, _ => Nat.zero_le _
 | [], x :: l, _, _, h => absurd (h x (by simp)) (by simp)
 | y :: m, x :: l, hl, hm, h => by
  have hl' := List.pairwise_cons.1 hl
  have hm' := List.pairwise_cons.1 hm
  by_cases hxy : x = y
  ·subst hxy
   have := ZnL m l hl'.2 hm'.2 fun z hz => by
    rcases List.mem_cons.1 (h z (by simp [hz])) with e | hz'
    ·exact absurd (e ▸ hl'.1 z hz) (ZcT _)
    ·exact hz'
   simp only [List.length_cons]; omega
  ·have hyx : ltE y x := by
    rcases List.mem_cons.1 (h x (by simp)) with e | hx
    ·exact absurd e hxy
    ·exact hm'.1 x hx
   have := ZnL m (x :: l) hl hm'.2 fun z hz => by
    rcases List.mem_cons.1 (h z hz) with e | hz'
    ·subst e
     rcases List.mem_cons.1 hz with e | hz2
     ·exact absurd e.symm hxy
     ·exact absurd (Zex hyx (hl'.1 z hz2)) (ZcT _)
    ·exact hz'
   simp only [List.length_cons] at this ⊢; omega
def ZbW (l : List Ze) : List Ze := compactUpTo (ZdX l).toArray (ZdX l).length
theorem Zgk {s : List Ze} {i : Nat} (h : i < s.length) : s[i]? = some s.toArray[i]! := by
 rw [Zqc s (List.getElem?_eq_getElem h)]; exact List.getElem?_eq_getElem h
theorem ZeW {s : List Ze} (hs : ∀ (i j : Nat) (x y : Ze), i < j → s[i]? = some x → s[j]? = some y → ¬ ltE y x) :
  ∀ m, m ≤ s.length → SS (compactUpTo s.toArray m) ∧ ∀ x, x ∈ compactUpTo s.toArray m ↔ ∃ i, i < m ∧ s.toArray[i]! = x
 | 0, _ => ⟨by simp [compactUpTo, SS], fun x => by simp [compactUpTo]⟩
 | m + 1, hm => by
  obtain ⟨h1, h2⟩ := ZeW hs m (by omega)
  have ord : ∀ i j, i < j → j < s.length → ¬ ltE s.toArray[j]! s.toArray[i]! := fun i j hij hj => hs i j _ _ hij (Zgk (by omega)) (Zgk hj)
  rw [compactUpTo_succ]
  by_cases hk : keeps s.toArray m = true
  ·rw [if_pos hk]
   constructor
   ·refine List.pairwise_append.2 ⟨h1, by simp, fun a ha b hb => ?_⟩
    obtain rfl : b = s.toArray[m]! := by simpa using hb
    obtain ⟨i, hi, rfl⟩ := (h2 a).1 ha
    have hk' : m = 0 ∨ s.toArray[m]! ≠ s.toArray[m - 1]! := by simpa only [keeps, decide_eq_true_iff] using hk
    have hne : s.toArray[m]! ≠ s.toArray[m - 1]! := by
     rcases hk' with h | h
     ·omega
     ·exact h
    rcases ZfR s.toArray[i]! s.toArray[m]! with h | h | h
    ·exact h
    ·exfalso
     have hlast : ltE s.toArray[m - 1]! s.toArray[m]! := by
      rcases ZfR s.toArray[m - 1]! s.toArray[m]! with h' | h' | h'
      ·exact h'
      ·exact absurd h'.symm hne
      ·exact absurd h' (ord (m - 1) m (by omega) (by omega))
     rcases Nat.lt_or_ge i (m - 1) with hlt | hge
     ·exact ord i (m - 1) hlt (by omega) (h ▸ hlast)
     ·obtain rfl : i = m - 1 := by omega
      exact hne h.symm
    ·exact absurd h (ord i m hi (by omega))
   ·intro x
    rw [List.mem_append, h2, List.mem_singleton]
    constructor
    ·rintro (⟨i, hi, h⟩ | rfl)
     ·exact ⟨i, by omega, h⟩
     ·exact ⟨m, by omega, rfl⟩
    ·rintro ⟨i, hi, h⟩
     rcases Nat.lt_or_ge i m with hlt | hge
     ·exact .inl ⟨i, hlt, h⟩
     ·obtain rfl : i = m := by omega
      exact .inr h.symm
  ·rw [if_neg hk, List.append_nil]
   refine ⟨h1, fun x => ?_⟩
   have hk' : ¬ (m = 0 ∨ s.toArray[m]! ≠ s.toArray[m - 1]!) := by simpa only [keeps, decide_eq_true_iff] using hk
   have hk2 := Classical.not_not.1 (not_or.1 hk').2
   rw [h2]
   constructor
   ·rintro ⟨i, hi, h⟩; exact ⟨i, by omega, h⟩
   ·rintro ⟨i, hi, h⟩
    rcases Nat.lt_or_ge i m with hlt | hge
    ·exact ⟨i, hlt, h⟩
    ·obtain rfl : i = m := by omega
     exact ⟨i - 1, by omega, hk2 ▸ h⟩
theorem Zeu (l : List Ze) : SS (ZbW l) := (ZeW (Zg5 l) _ (Nat.le_refl _)).1
theorem Zcq (l : List Ze) (x : Ze) : x ∈ ZbW l ↔ x ∈ l := by
 unfold ZbW
 rw [(ZeW (Zg5 l) _ (Nat.le_refl _)).2, ← (ZiP l).mem_iff]
 constructor
 ·rintro ⟨i, hi, rfl⟩; exact List.mem_of_getElem? (Zgk hi)
 ·intro h
  obtain ⟨i, hi⟩ := List.getElem?_of_mem h
  exact ⟨i, (List.getElem?_eq_some_iff.1 hi).1, Zqc _ hi⟩
theorem Zlo {l m : List Ze} (h : ∀ x, x ∈ l ↔ x ∈ m) : ZbW l = ZbW m := ZfS _ _ (Zeu l) (Zeu m) fun x => by rw [Zcq, Zcq, h]
theorem Zn1 {l m : List Ze} (h : ∀ x, x ∈ l → x ∈ m) : (ZbW l).length ≤ (ZbW m).length := ZnL _ _ (Zeu l) (Zeu m) fun x => by rw [Zcq, Zcq]; exact h x
theorem canon_len (l : List Ze) : (ZbW l).length ≤ l.length := by
 have h := List.length_filter_le (keeps (ZdX l).toArray) (List.range (ZdX l).length)
 rw [List.length_range, ZdN] at h
 simpa [ZbW, compactUpTo, ZdN] using h
theorem Zm2 {n : Int} (h : 0 ≤ n) (k : n ≤ 9223372036854775807) : IntKind.i64.wrap n = n := IntWalk.i64_in n ⟨by omega, by omega⟩
def mk (l : List Ze) : Zf := if 16 < (ZbW l).length then ⟨true, []⟩ else ⟨false, ZbW l⟩
theorem Zhe (s : List (List Ze)) (k : Nat) (x : List Ze) (xs : List (List Ze)) (acc : List Ze) (h : acc.length + x.length ≤ 1000) : Zt s k acc (x :: xs) = Zt s (k + 1) (acc ++ x) xs := by
 rw [Zt, ZcD _ (by omega)]
theorem Zhm (s : List (List Ze)) (n k : Nat) (x : List Ze) (xs : List (List Ze)) (h : n + x.length ≤ 1000) : Zw s (n : Int) k (x :: xs) = Zw s ((n + x.length : Nat) : Int) (k + 1) xs := by
 rw [Zw]
 have e : IntKind.i64.wrap ((n : Int) + ((x.length : Nat) : Int)) = ((n + x.length : Nat) : Int) := by rw [Zm2 (by omega) (by omega)]; omega
 rw [e, if_neg (by simp; omega)]
theorem Zlh (s : List (List Ze)) (n k : Nat) (h : n ≤ 1000) : Zw s (n : Int) k [] = Zt s 0 [] s := by
 rw [Zw]
 show (ZaX (n : Int) >>= _) = _
 rw [ZaX, if_pos ⟨by omega, by omega⟩, Z5]
theorem Zo5 (a : List Ze) (h : a.length ≤ 1000) : ZY [a] = some a := by
 rw [ZY, show (0 : Int) = ((0 : Nat) : Int) from rfl, Zhm _ _ _ _ _ (by omega), Zlh _ _ _ (by omega), Zhe _ _ _ _ _ (by simpa using h), Zt]
 rfl
theorem ZoW (a b : List Ze) (h : a.length + b.length ≤ 1000) : ZY [a, b] = some (a ++ b) := by
 rw [ZY, show (0 : Int) = ((0 : Nat) : Int) from rfl, Zhm _ _ _ _ _ (by omega), Zhm _ _ _ _ _ (by omega), Zlh _ _ _ (by omega), Zhe _ _ _ _ _ (by simp; omega), Zhe _ _ _ _ _ (by simpa using h), Zt]
 rfl
theorem ZjX {ls : List (List Ze)} {l : List Ze} (h : ZY ls = some l) (hl : l.length ≤ 1000) : ZaR ls = some (mk l) := by
 have hs := ZdN l
 rw [ZaR, h, Z5, Zr, if_pos (by omega), Z5, ZaM, if_pos (by omega), Z5]
 show (if (decide ((((ZbW l).length : Nat) : Int) > 16)) = true then _ else some (Zf.mk false (ZbW l))) = _
 unfold mk
 by_cases h16 : 16 < (ZbW l).length
 ·rw [if_pos (by simp; omega), if_pos h16, Zbb, Z5]
 ·rw [if_neg (by simp; omega), if_neg h16]
def uni (a b : Zf) : Zf := if (a.fAll || b.fAll) = true then ⟨true, []⟩ else mk (a.fList ++ b.fList)
theorem Zep (a b : Zf) (ha : a.fList.length ≤ 100) (hb : b.fList.length ≤ 100) : Zar a b = some (uni a b) := by
 rw [Zar, Zbb, ZjX (ZoW _ _ (by omega)) (by simp; omega)]
 unfold uni
 split <;> rfl
theorem ZpL (l : List Ze) : (mk l).fList.length ≤ 16 := by
 unfold mk; split
 ·exact Nat.zero_le _
 ·show (ZbW l).length ≤ 16; omega
theorem ZmM (a b : Zf) : (uni a b).fList.length ≤ 16 := by
 unfold uni; split
 ·exact Nat.zero_le _
 ·exact ZpL _
theorem Zos (e : Ze) : ZbA e = some (mk [e]) := by rw [ZbA, ZjX (Zo5 [e] (by simp)) (by simp)]; rfl
theorem Znd (e : Ze) : ZbW [e] = [e] := ZfS _ _ (Zeu _) (by simp [SS]) (Zcq _)
theorem ZnE (e : Ze) : mk [e] = ⟨false, [e]⟩ := by unfold mk; rw [Znd]; rfl
theorem ZiK (x : Ze) : ZdT x x = true := by unfold ZdT; simp
theorem ZhK (a : Zf) : ∀ (post pre : List Ze) (k : Nat), a.fList = pre ++ post → k = pre.length → ZA k a a post = some true
 | [], pre, k, _, _ => by rw [ZA]
 | x :: post, pre, k, h2, hk => by
  rw [ZA]
  simp only [Zj6 h2 hk, Z5]
  show (if (!ZdT x x) = true then _ else _) = _
  rw [ZiK]
  exact ZhK a post (pre ++ [x]) (k + 1) (by rw [h2]; simp) (by rw [hk]; simp)
theorem ZjN (a : Zf) : ZG a a = some true := by
 rw [ZG, if_neg (by simp), ZhK a a.fList [] 0 rfl rfl]

def Z4 (l : Za9) (e : Ze) : Option (Bool) :=
 Zag l.e0 >>= fun r8 =>
 (if (!r8) = true then some true else Zag l.e1 >>= fun r9 =>
 some (!r9)) >>= fun c10 =>
 (if c10 = true then some true else Zag l.e2 >>= fun r11 =>
 some (!r11)) >>= fun c12 =>
 if c12 = true then
 ZR >>= fun r16 =>
 some r16
 else
 Zar l.e0 l.e1 >>= fun r17 =>
 Zar r17 l.e2 >>= fun r22 =>
 Zar l.e1 l.e2 >>= fun r23 =>
 Zar l.e0 r23 >>= fun r24 =>
 ZG r22 r24 >>= fun r25 =>
 Zax l.e0 r17 >>= fun r26 =>
 (if r26 = true then Zax l.e1 r17 >>= fun r27 =>
 some r27 else some false) >>= fun c28 =>
 (if c28 = true then ZbA e >>= fun r29 =>
 ZaO r29 e >>= fun r30 =>
 some r30 else some false) >>= fun c31 =>
 (if r17.fAll = true then some true else ZaO r17 e >>= fun r34 =>
 ZaO l.e0 e >>= fun r35 =>
 (if r35 = true then some true else ZaO l.e1 e >>= fun r36 =>
 some r36) >>= fun c37 =>
 some (r34 == c37)) >>= fun c38 =>
 (if ((r25 && c31) && c38) = true then Zar l.e1 l.e0 >>= fun r41 =>
 ZG r17 r41 >>= fun r42 =>
 some r42 else some false) >>= fun c43 =>
 (if c43 = true then ZR >>= fun r44 =>
 some r44 else some false) >>= fun c45 =>
 some c45
def Z4.M (l : Za9) (e : Ze) (r : Bool) : Prop :=
 Zj Tryd.prog 9 [.agg [.v (.bool l.e0.fAll), .sl (l.e0.fList.map Ze.cells), .v (.bool l.e1.fAll), .sl (l.e1.fList.map Ze.cells), .v (.bool l.e2.fAll), .sl (l.e2.fList.map Ze.cells)], .agg [.v (.string e.fCon), .v (.int .i64 e.fN)]] [] (fun d b => d = .c none (.v (.bool r)) ∧ b = [])
theorem Zd1 (l : Za9) (e : Ze) (r : Bool) (hF : Z4 l e = some r) : Z4.M l e r := by
 unfold Z4 at hF
 unfold Z4.M
 refine en Tryd.func9 ?_
 refine AWP.seq ?_
 refine ns ?_
 refine AWP.seq ?_
 refine AWP.seq ?_
 obtain ⟨r8, hr8, hF⟩ := bind_some hF
 obtain ⟨c10, ZaK, hF⟩ := bind_some hF
 obtain ⟨c12, Zcl, hF⟩ := bind_some hF
 refine AWP.cutN (fun T => ∃ r, WS r T ⟨[(2, .ptr 2 0), (3, .ptr 3 0), (24, .c none (.v (.bool c12)))], [(2, [(none, .v (.bool l.e0.fAll)), (none, .sl (l.e0.fList.map Ze.cells)), (none, .v (.bool l.e1.fAll)), (none, .sl (l.e1.fList.map Ze.cells)), (none, .v (.bool l.e2.fAll)), (none, .sl (l.e2.fList.map Ze.cells))]), (3, [(none, .v (.string e.fCon)), (none, .v (.int .i64 e.fN))])]⟩) ?_ (fun T hw => ?_)
 ·refine ns ?_
  refine e3 ?_
  refine st ?_
  refine cm (Zj.weak (rn []) (Zbh l.e0 _ hr8) rfl (WS.mk (Za (Zo (lc (lc Zm))) Zd) Zc)) ?_
  refine st ?_
  refine Zh false (fun Zdq => ?_) (fun Zdq => ?_)
  ·have ZaK := ift Zdq ZaK
   (conv => whnf)
   obtain rfl := Zg ZaK
   have Zcl := ift Zdq Zcl
   obtain rfl := Zg Zcl
   refine st ?_
   exact wx (WS.mk (tp (tp (Za (Zy (web Zdq)) Zd))) (Zi rfl (cc (cc (cc (cc (cc (cc Zk)))))) (Zi rfl (cc (cc Zk)) Zc)))
  ·have ZaK := ife Zdq ZaK
   obtain ⟨r9, hr9, ZaK⟩ := bind_some ZaK
   (conv => whnf)
   refine st ?_
   refine e3 ?_
   refine st ?_
   refine cm (Zj.weak (rn []) (Zbh l.e1 _ hr9) rfl (WS.mk (Za (Zo (lc (lc Zm))) Zd) Zc)) ?_
   refine st ?_
   obtain rfl := Zg ZaK
   refine st ?_
   refine Zh false (fun ZcO => ?_) (fun ZcO => ?_)
   ·have Zcl := ift (And.intro Zdq ZcO) Zcl
    (conv => whnf)
    obtain rfl := Zg Zcl
    refine st ?_
    exact wx (WS.mk (tp (tp (Za (Zy (web (And.intro Zdq ZcO))) Zd))) (Zi rfl (cc (cc (cc (cc (cc (cc Zk)))))) (Zi rfl (cc (cc Zk)) Zc)))
   ·have Zcl := ife (And.intro Zdq ZcO) Zcl
    obtain ⟨r11, ZnI, Zcl⟩ := bind_some Zcl
    (conv => whnf)
    refine st ?_
    refine e3 ?_
    refine st ?_
    refine cm (Zj.weak (rn []) (Zbh l.e2 _ ZnI) rfl (WS.mk (Za (Zo (lc (lc Zm))) Zd) Zc)) ?_
    refine st ?_
    obtain rfl := Zg Zcl
    refine st ?_
    exact wx (WS.mk (tp (tp (Za (Zy (web (And.intro Zdq ZcO))) Zd))) (Zi rfl (cc (cc (cc (cc (cc (cc Zk)))))) (Zi rfl (cc (cc Zk)) Zc)))
 obtain ⟨r0, hw⟩ := hw
 (conv => whnf)
 refine AWP.weak r0 hw ?_
 refine nw ?_
 refine Zp hF (fun ZfX hF => ?_) (fun ZfX hF => ?_)
 ·refine AWP.seq ?_
  obtain ⟨r16, Zp4, hF⟩ := bind_some hF
  refine ns ?_
  refine e3 ?_
  refine st ?_
  refine cm (Zj.weak (rn []) (Zbc _ Zp4) rfl (WS.mk Zd Zc)) ?_
  refine st ?_
  obtain rfl := Zg hF
  refine ns ?_
  refine Exists.intro [] ?_
  refine st ?_
  exact wx (WS.mk (tc Zd) Zc)
 ·refine nw ?_
  refine AWP.seq ?_
  obtain ⟨r17, ZpB, hF⟩ := bind_some hF
  refine ns ?_
  refine e3 ?_
  refine st ?_
  refine cm (Zj.weak (rn []) (Zbf l.e0 l.e1 _ ZpB) rfl (WS.mk (Za (Zo (lc (lc Zm))) (Za (Zo (lc (lc Zm))) Zd)) Zc)) ?_
  refine st ?_
  refine AWP.seq ?_
  obtain ⟨r22, Zq2, hF⟩ := bind_some hF
  obtain ⟨r23, ZrA, hF⟩ := bind_some hF
  obtain ⟨r24, Zra, hF⟩ := bind_some hF
  obtain ⟨r25, Zoo, hF⟩ := bind_some hF
  refine nn ?_
  refine Or.inr (Exists.intro [0, 4, 5, 6, 7, 8, 9] (Exists.intro [[31, 35, 36, 37, 38, 39, 40], [31, 35, 36, 37, 38, 39, 40], [31, 36, 37, 38, 39, 40], [31, 35, 36, 37, 38, 39, 40], [31, 35, 36, 38, 39, 40], [31, 35, 36, 37, 38, 39, 40], [31, 35, 36, 37, 38, 40]] (Exists.intro [5, 2] (Exists.intro [2, 5, 31, 35, 36, 37, 38, 39, 40] (Exists.intro [31, 35, 36, 37, 38, 39, 40] (Exists.intro [1, 2, 3, 10, 11, 12, 13] (And.intro (by decide +kernel) ?_)))))))
  refine dp ?_
  refine dp ?_
  refine dp ?_
  refine dp ?_
  refine dp ?_
  refine dp ?_
  refine dp ?_
  refine st ?_
  refine e3 ?_
  refine st ?_
  refine cm (Zj.weak (rn []) (Zbf r17 l.e2 _ Zq2) rfl (WS.mk (Za (Zo (lc (lc Zm))) (Za (Zo (lc (lc Zm))) Zd)) Zc)) ?_
  refine st ?_
  refine e3 ?_
  refine st ?_
  refine cm (Zj.weak (rn []) (Zbf l.e1 l.e2 _ ZrA) rfl (WS.mk (Za (Zo (lc (lc Zm))) (Za (Zo (lc (lc Zm))) Zd)) Zc)) ?_
  refine st ?_
  refine e3 ?_
  refine st ?_
  refine cm (Zj.weak (rn []) (Zbf l.e0 r23 _ Zra) rfl (WS.mk (Za (Zo (lc (lc Zm))) (Za (Zo (lc (lc Zm))) Zd)) Zc)) ?_
  refine st ?_
  refine e3 ?_
  refine st ?_
  refine cm (Zj.weak (rn []) (ZaL r22 r24 _ Zoo) rfl (WS.mk (Za (Zo (lc (lc Zm))) (Za (Zo (lc (lc Zm))) Zd)) Zc)) ?_
  refine st ?_
  refine AWP.seq ?_
  obtain ⟨r26, ZpN, hF⟩ := bind_some hF
  obtain ⟨c28, Zjp, hF⟩ := bind_some hF
  obtain ⟨c31, ZdE, hF⟩ := bind_some hF
  refine AWP.cutN (fun T => ∃ r, WS r T ⟨[(2, .ptr 2 0), (3, .ptr 3 0), (5, .ptr 5 0), (6, .c none (.v (.bool r25))), (7, .c none (.v (.bool c31)))], [(2, [(none, .v (.bool l.e0.fAll)), (none, .sl (l.e0.fList.map Ze.cells)), (none, .v (.bool l.e1.fAll)), (none, .sl (l.e1.fList.map Ze.cells)), (none, .v (.bool l.e2.fAll)), (none, .sl (l.e2.fList.map Ze.cells))]), (3, [(none, .v (.string e.fCon)), (none, .v (.int .i64 e.fN))]), (5, [(none, .v (.bool r17.fAll)), (none, .sl (r17.fList.map Ze.cells))])]⟩) ?_ (fun T hw => ?_)
  ·refine nn ?_
   refine Or.inl (Exists.intro 14 (Exists.intro [[], [], [], [], [], [], [], [], [], [], [], [], [], []] (Exists.intro [([44, 45, 46, 47, 48, 49, 50, 51, 52, 53, 54, 55, 56, 57], [], []), ([45, 46, 47, 48, 49, 50, 51, 52, 53, 54, 55, 56, 57], [], []), ([44, 45, 46, 47, 48, 49, 50, 51, 52, 53, 54, 55, 56, 57], [], []), ([47, 48, 49, 50, 51, 52, 53, 54, 55, 56, 57], [], []), ([48, 49, 50, 51, 52, 53, 54, 55, 56, 57], [], []), ([49, 50, 51, 52, 53, 54, 55, 56, 57], [], []), ([50, 51, 52, 53, 54, 55, 56, 57], [], []), ([49, 50, 51, 52, 53, 54, 55, 56, 57], [], []), ([52, 53, 54, 55, 56, 57], [], []), ([53, 54, 55, 56, 57], [], []), ([54, 55, 56, 57], [], []), ([55, 56, 57], [], []), ([56, 57], [], []), ([55, 56, 57], [], [])] (Exists.intro [44, 45, 46, 47, 48, 49, 50, 51, 52, 53, 54, 55, 56, 57] (And.intro (by decide +kernel) ?_)))))
   refine dp ?_
   refine dp ?_
   refine dp ?_
   (refine st ?_; apply Exists.intro; apply Exists.intro; apply And.intro; (focus ((conv => whnf); refine Exists.intro [] ?_; (conv => whnf); refine And.intro rfl ?_; (conv => whnf); refine Zj.mono (Zj.weak (rn []) (ZbQ l.e0 r17 _ ZpN) rfl (WS.mk (Za (Zo (lc (lc Zm))) (Za (Zo (lc (lc Zm))) Zd)) Zc)) ?_; rintro d b ⟨rfl, rfl⟩; exact And.intro rfl (And.intro rfl rfl))); apply And.intro; (focus exact rfl); (conv => whnf))
   refine dp ?_
   refine st ?_
   refine Zh true (fun ZbR => ?_) (fun ZbR => ?_)
   ·have Zjp := ift ZbR Zjp
    obtain ⟨r27, ZqU, Zjp⟩ := bind_some Zjp
    (conv => whnf)
    refine dp ?_
    refine dp ?_
    refine dp ?_
    (refine st ?_; apply Exists.intro; apply Exists.intro; apply And.intro; (focus ((conv => whnf); refine Exists.intro [] ?_; (conv => whnf); refine And.intro rfl ?_; (conv => whnf); refine Zj.mono (Zj.weak (rn []) (ZbQ l.e1 r17 _ ZqU) rfl (WS.mk (Za (Zo (lc (lc Zm))) (Za (Zo (lc (lc Zm))) Zd)) Zc)) ?_; rintro d b ⟨rfl, rfl⟩; exact And.intro rfl (And.intro rfl rfl))); apply And.intro; (focus exact rfl); (conv => whnf))
    obtain rfl := Zg Zjp
    refine dp ?_
    refine dp ?_
    refine st ?_
    refine Zh true (fun Zcm => ?_) (fun Zcm => ?_)
    ·have ZdE := ift (And.intro ZbR Zcm) ZdE
     obtain ⟨r29, Zl2, ZdE⟩ := bind_some ZdE
     obtain ⟨r30, Zqq, ZdE⟩ := bind_some ZdE
     (conv => whnf)
     refine dp ?_
     (refine st ?_; apply Exists.intro; apply Exists.intro; apply And.intro; (focus ((conv => whnf); refine Exists.intro [] ?_; (conv => whnf); refine And.intro rfl ?_; (conv => whnf); refine Zj.mono (Zj.weak (rn []) (Zf4 e _ Zl2) rfl (WS.mk (Za (Zo (lc (lc Zm))) Zd) Zc)) ?_; rintro d b ⟨rfl, rfl⟩; exact And.intro rfl (And.intro rfl rfl))); apply And.intro; (focus exact rfl); (conv => whnf))
     refine dp ?_
     refine st ?_
     refine e3 ?_
     refine st ?_
     refine cm (Zj.weak (rn []) (ZbD r29 e _ Zqq) rfl (WS.mk (Za (Zo (lc (lc Zm))) (Za (Zo (lc (lc Zm))) Zd)) Zc)) ?_
     refine st ?_
     obtain rfl := Zg ZdE
     refine st ?_
     exact wx (WS.mk (tp (tp (tp (tc (Za (Zy (web (And.intro ZbR Zcm))) Zd))))) (Zi rfl (cc (cc (cc (cc (cc (cc Zk)))))) (Zi rfl (cc (cc Zk)) (Zi rfl (cc (cc Zk)) Zc))))
    ·have ZdE := ife (And.intro ZbR Zcm) ZdE
     (conv => whnf)
     obtain rfl := Zg ZdE
     refine st ?_
     exact wx (WS.mk (tp (tp (tp (tc (Za (Zy (web (And.intro ZbR Zcm))) Zd))))) (Zi rfl (cc (cc (cc (cc (cc (cc Zk)))))) (Zi rfl (cc (cc Zk)) (Zi rfl (cc (cc Zk)) Zc))))
   ·have Zjp := ife ZbR Zjp
    (conv => whnf)
    obtain rfl := Zg Zjp
    refine dp ?_
    refine dp ?_
    have ZdE := ife ZbR ZdE
    obtain rfl := Zg ZdE
    refine st ?_
    exact wx (WS.mk (tp (tp (tp (tc (Za (Zy (web ZbR)) Zd))))) (Zi rfl (cc (cc (cc (cc (cc (cc Zk)))))) (Zi rfl (cc (cc Zk)) (Zi rfl (cc (cc Zk)) Zc))))
  obtain ⟨r0, hw⟩ := hw
  (conv => whnf)
  refine AWP.weak r0 hw ?_
  refine AWP.seq ?_
  obtain ⟨c38, Zhs, hF⟩ := bind_some hF
  refine AWP.cutN (fun T => ∃ r, WS r T ⟨[(2, .ptr 2 0), (5, .ptr 5 0), (6, .c none (.v (.bool r25))), (7, .c none (.v (.bool c31))), (8, .c none (.v (.bool c38)))], [(2, [(none, .v (.bool l.e0.fAll)), (none, .sl (l.e0.fList.map Ze.cells)), (none, .v (.bool l.e1.fAll)), (none, .sl (l.e1.fList.map Ze.cells)), (none, .v (.bool l.e2.fAll)), (none, .sl (l.e2.fList.map Ze.cells))]), (5, [(none, .v (.bool r17.fAll)), (none, .sl (r17.fList.map Ze.cells))])]⟩) ?_ (fun T hw => ?_)
  ·refine nn ?_
   refine Or.inl (Exists.intro 14 (Exists.intro [[], [], [], [], [], [], [], [], [], [], [], [], [], []] (Exists.intro [([60, 61, 62, 63, 64, 65, 66, 67, 68, 69, 70, 71, 72, 73], [], []), ([61, 62, 63, 64, 65, 66, 67, 68, 69, 70, 71, 72, 73], [], []), ([62, 63, 64, 65, 66, 67, 68, 69, 70, 71, 72, 73], [], []), ([63, 64, 65, 66, 67, 68, 69, 70, 71, 72, 73], [], []), ([63, 64, 65, 66, 67, 68, 69, 70, 71, 72, 73], [], []), ([65, 66, 67, 68, 69, 70, 71, 72, 73], [], []), ([63, 64, 65, 66, 67, 68, 69, 70, 71, 72, 73], [], []), ([63, 64, 65, 67, 68, 69, 70, 71, 72, 73], [], []), ([63, 64, 65, 66, 67, 68, 69, 70, 71, 72, 73], [], []), ([69, 70, 71, 72, 73], [], []), ([70, 71, 72, 73], [], []), ([71, 72, 73], [], []), ([72, 73], [], []), ([71, 72, 73], [], [])] (Exists.intro [60, 61, 62, 63, 64, 65, 66, 67, 68, 69, 70, 71, 72, 73] (And.intro (by decide +kernel) ?_)))))
   refine dp ?_
   refine dp ?_
   refine dp ?_
   refine st ?_
   refine Zh false (fun Zjt => ?_) (fun Zjt => ?_)
   ·have Zhs := ift Zjt Zhs
    (conv => whnf)
    obtain rfl := Zg Zhs
    refine st ?_
    exact wx (WS.mk (tp (tp (tc (tc (Za (Zy (web Zjt)) Zd))))) (Zi rfl (cc (cc (cc (cc (cc (cc Zk)))))) (Zi rfl (cc (cc Zk)) Zc)))
   ·have Zhs := ife Zjt Zhs
    obtain ⟨r34, Zpl, Zhs⟩ := bind_some Zhs
    obtain ⟨r35, Zrj, Zhs⟩ := bind_some Zhs
    obtain ⟨c37, ZkO, Zhs⟩ := bind_some Zhs
    (conv => whnf)
    refine dp ?_
    refine dp ?_
    (refine st ?_; apply Exists.intro; apply Exists.intro; apply And.intro; (focus ((conv => whnf); refine Exists.intro [] ?_; (conv => whnf); refine And.intro rfl ?_; (conv => whnf); refine Zj.mono (Zj.weak (rn []) (ZbD r17 e _ Zpl) rfl (WS.mk (Za (Zo (lc (lc Zm))) (Za (Zo (lc (lc Zm))) Zd)) Zc)) ?_; rintro d b ⟨rfl, rfl⟩; exact And.intro rfl (And.intro rfl rfl))); apply And.intro; (focus exact rfl); (conv => whnf))
    refine dp ?_
    refine dp ?_
    refine dp ?_
    (refine st ?_; apply Exists.intro; apply Exists.intro; apply And.intro; (focus ((conv => whnf); refine Exists.intro [] ?_; (conv => whnf); refine And.intro rfl ?_; (conv => whnf); refine Zj.mono (Zj.weak (rn []) (ZbD l.e0 e _ Zrj) rfl (WS.mk (Za (Zo (lc (lc Zm))) (Za (Zo (lc (lc Zm))) Zd)) Zc)) ?_; rintro d b ⟨rfl, rfl⟩; exact And.intro rfl (And.intro rfl rfl))); apply And.intro; (focus exact rfl); (conv => whnf))
    refine dp ?_
    refine st ?_
    refine Zh false (fun ZoH => ?_) (fun ZoH => ?_)
    ·have ZkO := ift (And.intro Zjt ZoH) ZkO
     (conv => whnf)
     obtain rfl := Zg ZkO
     obtain rfl := Zg Zhs
     refine st ?_
     exact wx (WS.mk (tp (tp (tc (tc (Za (Zy (web (And.intro Zjt ZoH))) Zd))))) (Zi rfl (cc (cc (cc (cc (cc (cc Zk)))))) (Zi rfl (cc (cc Zk)) Zc)))
    ·have ZkO := ife (And.intro Zjt ZoH) ZkO
     obtain ⟨r36, ZrM, ZkO⟩ := bind_some ZkO
     (conv => whnf)
     refine dp ?_
     refine dp ?_
     refine dp ?_
     refine st ?_
     refine e3 ?_
     refine st ?_
     refine cm (Zj.weak (rn []) (ZbD l.e1 e _ ZrM) rfl (WS.mk (Za (Zo (lc (lc Zm))) (Za (Zo (lc (lc Zm))) Zd)) Zc)) ?_
     refine st ?_
     obtain rfl := Zg ZkO
     obtain rfl := Zg Zhs
     refine st ?_
     exact wx (WS.mk (tp (tp (tc (tc (Za (Zy (web (And.intro Zjt ZoH))) Zd))))) (Zi rfl (cc (cc (cc (cc (cc (cc Zk)))))) (Zi rfl (cc (cc Zk)) Zc)))
  obtain ⟨r0, hw⟩ := hw
  (conv => whnf)
  refine AWP.weak r0 hw ?_
  refine AWP.seq ?_
  obtain ⟨c43, Zc0, hF⟩ := bind_some hF
  obtain ⟨c45, ZdR, hF⟩ := bind_some hF
  refine AWP.cutN (fun T => ∃ r, WS r T ⟨[(4, .c none (.v (.bool c45)))], []⟩) ?_ (fun T hw => ?_)
  ·refine nn ?_
   refine Or.inl (Exists.intro 14 (Exists.intro [[], [], [], [], [], [], [], [], [], [], [], [], [], []] (Exists.intro [([78, 79, 80, 81, 82, 83, 84, 85, 86, 87, 88, 89, 90, 91], [], []), ([79, 80, 81, 82, 83, 84, 85, 86, 87, 88, 89, 90, 91], [], []), ([80, 81, 82, 83, 84, 85, 86, 87, 88, 89, 90, 91], [], []), ([81, 82, 83, 84, 85, 86, 87, 88, 89, 90, 91], [], []), ([82, 83, 84, 85, 86, 87, 88, 89, 90, 91], [], []), ([83, 84, 85, 86, 87, 88, 89, 90, 91], [], []), ([84, 85, 86, 87, 88, 89, 90, 91], [], []), ([85, 86, 87, 88, 89, 90, 91], [], []), ([86, 87, 88, 89, 90, 91], [], []), ([86, 87, 88, 89, 90, 91], [], []), ([86, 88, 89, 90, 91], [], []), ([86, 87, 88, 89, 90, 91], [], []), ([86, 87, 88, 90, 91], [], []), ([86, 91], [], [])] (Exists.intro [78, 79, 80, 81, 82, 83, 84, 85, 86, 87, 88, 89, 90, 91] (And.intro (by decide +kernel) ?_)))))
   refine dp ?_
   refine dp ?_
   refine st ?_
   refine Zh true (fun Zfp => ?_) (fun Zfp => ?_)
   ·(conv => whnf)
    refine dp ?_
    refine dp ?_
    refine dp ?_
    refine st ?_
    refine Zh true (fun ZhT => ?_) (fun ZhT => ?_)
    ·(conv => whnf)
     refine dp ?_
     refine dp ?_
     refine dp ?_
     refine st ?_
     refine Zh true (fun Zfb => ?_) (fun Zfb => ?_)
     ·have Zc0 := ift (And.intro Zfp (And.intro ZhT Zfb)) Zc0
      obtain ⟨r41, ZrX, Zc0⟩ := bind_some Zc0
      obtain ⟨r42, Zqp, Zc0⟩ := bind_some Zc0
      (conv => whnf)
      refine dp ?_
      refine dp ?_
      refine dp ?_
      refine dp ?_
      refine dp ?_
      (refine st ?_; apply Exists.intro; apply Exists.intro; apply And.intro; (focus ((conv => whnf); refine Exists.intro [] ?_; (conv => whnf); refine And.intro rfl ?_; (conv => whnf); refine Zj.mono (Zj.weak (rn []) (Zbf l.e1 l.e0 _ ZrX) rfl (WS.mk (Za (Zo (lc (lc Zm))) (Za (Zo (lc (lc Zm))) Zd)) Zc)) ?_; rintro d b ⟨rfl, rfl⟩; exact And.intro rfl (And.intro rfl rfl))); apply And.intro; (focus exact rfl); (conv => whnf))
      refine st ?_
      refine e3 ?_
      refine st ?_
      refine cm (Zj.weak (rn []) (ZaL r17 r41 _ Zqp) rfl (WS.mk (Za (Zo (lc (lc Zm))) (Za (Zo (lc (lc Zm))) Zd)) Zc)) ?_
      refine st ?_
      obtain rfl := Zg Zc0
      refine st ?_
      refine Zh true (fun Zoq => ?_) (fun Zoq => ?_)
      ·have ZdR := ift (And.intro Zfp (And.intro ZhT (And.intro Zfb Zoq))) ZdR
       obtain ⟨r44, ZrE, ZdR⟩ := bind_some ZdR
       (conv => whnf)
       refine st ?_
       refine e3 ?_
       refine st ?_
       refine cm (Zj.weak (rn []) (Zbc _ ZrE) rfl (WS.mk Zd Zc)) ?_
       refine st ?_
       obtain rfl := Zg ZdR
       refine st ?_
       exact wx (WS.mk (Za (Zy (web (And.intro Zfp (And.intro ZhT (And.intro Zfb Zoq))))) Zd) Zc)
      ·have ZdR := ife (And.intro Zfp (And.intro ZhT (And.intro Zfb Zoq))) ZdR
       (conv => whnf)
       obtain rfl := Zg ZdR
       refine st ?_
       exact wx (WS.mk (Za (Zy (web (And.intro Zfp (And.intro ZhT (And.intro Zfb Zoq))))) Zd) Zc)
     ·have Zc0 := ife (And.intro Zfp (And.intro ZhT Zfb)) Zc0
      (conv => whnf)
      obtain rfl := Zg Zc0
      have ZdR := ife (And.intro Zfp (And.intro ZhT Zfb)) ZdR
      obtain rfl := Zg ZdR
      refine st ?_
      exact wx (WS.mk (Za (Zy (web (And.intro Zfp (And.intro ZhT Zfb)))) Zd) Zc)
    ·(conv => whnf)
     refine dp ?_
     refine dp ?_
     have Zc0 := ife (And.intro Zfp ZhT) Zc0
     obtain rfl := Zg Zc0
     have ZdR := ife (And.intro Zfp ZhT) ZdR
     obtain rfl := Zg ZdR
     refine st ?_
     exact wx (WS.mk (Za (Zy (web (And.intro Zfp ZhT))) Zd) Zc)
   ·(conv => whnf)
    refine dp ?_
    refine dp ?_
    refine dp ?_
    refine dp ?_
    have Zc0 := ife Zfp Zc0
    obtain rfl := Zg Zc0
    have ZdR := ife Zfp ZdR
    obtain rfl := Zg ZdR
    refine st ?_
    exact wx (WS.mk (Za (Zy (web Zfp)) Zd) Zc)
  obtain ⟨r0, hw⟩ := hw
  (conv => whnf)
  refine AWP.weak r0 hw ?_
  obtain rfl := Zg hF
  refine ns ?_
  refine Exists.intro [] ?_
  refine st ?_
  exact wx (WS.mk (tc Zd) Zc)

def Z7 (a : Zf) (b : Zf) (e : Ze) : Option (Bool) :=
 Zag a >>= fun r6 =>
 (if (!r6) = true then some true else Zag b >>= fun r7 =>
 some (!r7)) >>= fun c8 =>
 if c8 = true then
 ZR >>= fun r11 =>
 some r11
 else
 ZbA e >>= fun r12 =>
 Zba e >>= fun r13 =>
 ZG r12 r13 >>= fun r14 =>
 (if r14 = true then Zbb >>= fun r15 =>
 Zao >>= fun r16 =>
 ZG r15 r16 >>= fun r17 =>
 some r17 else some false) >>= fun c18 =>
 (if c18 = true then Zar a b >>= fun r19 =>
 ZaA a b >>= fun r20 =>
 ZG r19 r20 >>= fun r21 =>
 some r21 else some false) >>= fun c22 =>
 (if c22 = true then ZaO a e >>= fun r25 =>
 ZaG a e >>= fun r26 =>
 some (r25 == r26) else some false) >>= fun c27 =>
 (if c27 = true then Zax a b >>= fun r28 =>
 Zat a b >>= fun r29 =>
 some (r28 == r29) else some false) >>= fun c30 =>
 (if c30 = true then ZR >>= fun r31 =>
 some r31 else some false) >>= fun c32 =>
 some c32
def Z7.M (a : Zf) (b : Zf) (e : Ze) (r : Bool) : Prop :=
 Zj Tryd.prog 8 [.agg [.v (.bool a.fAll), .sl (a.fList.map Ze.cells)], .agg [.v (.bool b.fAll), .sl (b.fList.map Ze.cells)], .agg [.v (.string e.fCon), .v (.int .i64 e.fN)]] [] (fun d b => d = .c none (.v (.bool r)) ∧ b = [])
theorem Zen (a : Zf) (b : Zf) (e : Ze) (r : Bool) (hF : Z7 a b e = some r) : Z7.M a b e r := by
 unfold Z7 at hF
 unfold Z7.M
 refine en Tryd.func8 ?_
 refine AWP.seq ?_
 refine ns ?_
 refine AWP.seq ?_
 refine AWP.seq ?_
 obtain ⟨r6, hr6, hF⟩ := bind_some hF
 obtain ⟨c8, hc8, hF⟩ := bind_some hF
 refine AWP.cutN (fun T => ∃ r, WS r T ⟨[(3, .ptr 3 0), (4, .ptr 4 0), (5, .ptr 5 0), (15, .c none (.v (.bool c8)))], [(3, [(none, .v (.bool a.fAll)), (none, .sl (a.fList.map Ze.cells))]), (4, [(none, .v (.bool b.fAll)), (none, .sl (b.fList.map Ze.cells))]), (5, [(none, .v (.string e.fCon)), (none, .v (.int .i64 e.fN))])]⟩) ?_ (fun T hw => ?_)
 ·refine ns ?_
  refine e3 ?_
  refine st ?_
  refine cm (Zj.weak (rn []) (Zbh a _ hr6) rfl (WS.mk (Za (Zo (lc (lc Zm))) Zd) Zc)) ?_
  refine st ?_
  refine Zh false (fun hc9 => ?_) (fun hc9 => ?_)
  ·have hc8 := ift hc9 hc8
   (conv => whnf)
   obtain rfl := Zg hc8
   refine st ?_
   exact wx (WS.mk (tp (tp (tp (Za (Zy (web hc9)) Zd)))) (Zi rfl (cc (cc Zk)) (Zi rfl (cc (cc Zk)) (Zi rfl (cc (cc Zk)) Zc))))
  ·have hc8 := ife hc9 hc8
   obtain ⟨r7, hr7, hc8⟩ := bind_some hc8
   (conv => whnf)
   refine st ?_
   refine e3 ?_
   refine st ?_
   refine cm (Zj.weak (rn []) (Zbh b _ hr7) rfl (WS.mk (Za (Zo (lc (lc Zm))) Zd) Zc)) ?_
   refine st ?_
   obtain rfl := Zg hc8
   refine st ?_
   exact wx (WS.mk (tp (tp (tp (Za (Zy (web hc9)) Zd)))) (Zi rfl (cc (cc Zk)) (Zi rfl (cc (cc Zk)) (Zi rfl (cc (cc Zk)) Zc))))
 obtain ⟨r0, hw⟩ := hw
 (conv => whnf)
 refine AWP.weak r0 hw ?_
 refine nw ?_
 refine Zp hF (fun ZaK hF => ?_) (fun ZaK hF => ?_)
 ·refine AWP.seq ?_
  obtain ⟨r11, ZnI, hF⟩ := bind_some hF
  refine ns ?_
  refine e3 ?_
  refine st ?_
  refine cm (Zj.weak (rn []) (Zbc _ ZnI) rfl (WS.mk Zd Zc)) ?_
  refine st ?_
  obtain rfl := Zg hF
  refine ns ?_
  refine Exists.intro [] ?_
  refine st ?_
  exact wx (WS.mk (tc Zd) Zc)
 ·refine nw ?_
  refine AWP.seq ?_
  obtain ⟨r12, ZrJ, hF⟩ := bind_some hF
  obtain ⟨r13, Zpq, hF⟩ := bind_some hF
  obtain ⟨r14, ZnK, hF⟩ := bind_some hF
  obtain ⟨c18, Zda, hF⟩ := bind_some hF
  obtain ⟨c22, Zft, hF⟩ := bind_some hF
  refine AWP.cutN (fun T => ∃ r, WS r T ⟨[(3, .ptr 3 0), (4, .ptr 4 0), (5, .ptr 5 0), (7, .c none (.v (.bool c22)))], [(3, [(none, .v (.bool a.fAll)), (none, .sl (a.fList.map Ze.cells))]), (4, [(none, .v (.bool b.fAll)), (none, .sl (b.fList.map Ze.cells))]), (5, [(none, .v (.string e.fCon)), (none, .v (.int .i64 e.fN))])]⟩) ?_ (fun T hw => ?_)
  ·refine nn ?_
   refine Or.inl (Exists.intro 16 (Exists.intro [[], [], [], [], [], [], [], [], [], [], [], [], [], [], [], []] (Exists.intro [([17, 18, 19, 20, 21, 22, 23, 24, 25, 26, 27, 28, 29, 30, 31, 32], [], []), ([18, 19, 20, 21, 22, 23, 24, 25, 26, 27, 28, 29, 30, 31, 32], [], []), ([17, 18, 19, 20, 21, 22, 23, 24, 25, 26, 27, 28, 29, 30, 31, 32], [], []), ([20, 21, 22, 23, 24, 25, 26, 27, 28, 29, 30, 31, 32], [], []), ([21, 22, 23, 24, 25, 26, 27, 28, 29, 30, 31, 32], [], []), ([22, 23, 24, 25, 26, 27, 28, 29, 30, 31, 32], [], []), ([23, 24, 25, 26, 27, 28, 29, 30, 31, 32], [], []), ([24, 25, 26, 27, 28, 29, 30, 31, 32], [], []), ([25, 26, 27, 28, 29, 30, 31, 32], [], []), ([26, 27, 28, 29, 30, 31, 32], [], []), ([27, 28, 29, 30, 31, 32], [], []), ([28, 29, 30, 31, 32], [], []), ([28, 29, 30, 31, 32], [], []), ([30, 31, 32], [], []), ([28, 29, 30, 31, 32], [], []), ([28, 29, 30, 31, 32], [], [])] (Exists.intro [17, 18, 19, 20, 21, 22, 23, 24, 25, 26, 27, 28, 29, 30, 31, 32] (And.intro (by decide +kernel) ?_)))))
   refine dp ?_
   (refine st ?_; apply Exists.intro; apply Exists.intro; apply And.intro; (focus ((conv => whnf); refine Exists.intro [] ?_; (conv => whnf); refine And.intro rfl ?_; (conv => whnf); refine Zj.mono (Zj.weak (rn []) (Zf4 e _ ZrJ) rfl (WS.mk (Za (Zo (lc (lc Zm))) Zd) Zc)) ?_; rintro d b ⟨rfl, rfl⟩; exact And.intro rfl (And.intro rfl rfl))); apply And.intro; (focus exact rfl); (conv => whnf))
   refine dp ?_
   (refine st ?_; apply Exists.intro; apply Exists.intro; apply And.intro; (focus ((conv => whnf); refine Exists.intro [] ?_; (conv => whnf); refine And.intro rfl ?_; (conv => whnf); refine Zj.mono (Zj.weak (rn []) (ZgL e _ Zpq) rfl (WS.mk (Za (Zo (lc (lc Zm))) Zd) Zc)) ?_; rintro d b ⟨rfl, rfl⟩; exact And.intro rfl (And.intro rfl rfl))); apply And.intro; (focus exact rfl); (conv => whnf))
   (refine st ?_; apply Exists.intro; apply Exists.intro; apply And.intro; (focus ((conv => whnf); refine Exists.intro [] ?_; (conv => whnf); refine And.intro rfl ?_; (conv => whnf); refine Zj.mono (Zj.weak (rn []) (ZaL r12 r13 _ ZnK) rfl (WS.mk (Za (Zo (lc (lc Zm))) (Za (Zo (lc (lc Zm))) Zd)) Zc)) ?_; rintro d b ⟨rfl, rfl⟩; exact And.intro rfl (And.intro rfl rfl))); apply And.intro; (focus exact rfl); (conv => whnf))
   refine dp ?_
   refine st ?_
   refine Zh true (fun Zkh => ?_) (fun Zkh => ?_)
   ·have Zda := ift Zkh Zda
    obtain ⟨r15, ZqT, Zda⟩ := bind_some Zda
    obtain ⟨r16, Zp4, Zda⟩ := bind_some Zda
    obtain ⟨r17, ZpB, Zda⟩ := bind_some Zda
    (conv => whnf)
    (refine st ?_; apply Exists.intro; apply Exists.intro; apply And.intro; (focus ((conv => whnf); refine Exists.intro [] ?_; (conv => whnf); refine And.intro rfl ?_; (conv => whnf); refine Zj.mono (Zj.weak (rn []) (Zek _ ZqT) rfl (WS.mk Zd Zc)) ?_; rintro d b ⟨rfl, rfl⟩; exact And.intro rfl (And.intro rfl rfl))); apply And.intro; (focus exact rfl); (conv => whnf))
    (refine st ?_; apply Exists.intro; apply Exists.intro; apply And.intro; (focus ((conv => whnf); refine Exists.intro [] ?_; (conv => whnf); refine And.intro rfl ?_; (conv => whnf); refine Zj.mono (Zj.weak (rn []) (ZcC _ Zp4) rfl (WS.mk Zd Zc)) ?_; rintro d b ⟨rfl, rfl⟩; exact And.intro rfl (And.intro rfl rfl))); apply And.intro; (focus exact rfl); (conv => whnf))
    (refine st ?_; apply Exists.intro; apply Exists.intro; apply And.intro; (focus ((conv => whnf); refine Exists.intro [] ?_; (conv => whnf); refine And.intro rfl ?_; (conv => whnf); refine Zj.mono (Zj.weak (rn []) (ZaL r15 r16 _ ZpB) rfl (WS.mk (Za (Zo (lc (lc Zm))) (Za (Zo (lc (lc Zm))) Zd)) Zc)) ?_; rintro d b ⟨rfl, rfl⟩; exact And.intro rfl (And.intro rfl rfl))); apply And.intro; (focus exact rfl); (conv => whnf))
    obtain rfl := Zg Zda
    refine dp ?_
    refine dp ?_
    refine st ?_
    refine Zh true (fun ZnN => ?_) (fun ZnN => ?_)
    ·have Zft := ift (And.intro Zkh ZnN) Zft
     obtain ⟨r19, Zp7, Zft⟩ := bind_some Zft
     obtain ⟨r20, ZrQ, Zft⟩ := bind_some Zft
     obtain ⟨r21, ZrV, Zft⟩ := bind_some Zft
     (conv => whnf)
     refine dp ?_
     refine dp ?_
     (refine st ?_; apply Exists.intro; apply Exists.intro; apply And.intro; (focus ((conv => whnf); refine Exists.intro [] ?_; (conv => whnf); refine And.intro rfl ?_; (conv => whnf); refine Zj.mono (Zj.weak (rn []) (Zbf a b _ Zp7) rfl (WS.mk (Za (Zo (lc (lc Zm))) (Za (Zo (lc (lc Zm))) Zd)) Zc)) ?_; rintro d b ⟨rfl, rfl⟩; exact And.intro rfl (And.intro rfl rfl))); apply And.intro; (focus exact rfl); (conv => whnf))
     refine dp ?_
     refine dp ?_
     refine st ?_
     refine e3 ?_
     refine st ?_
     refine cm (Zj.weak (rn []) (Zf1 a b _ ZrQ) rfl (WS.mk (Za (Zo (lc (lc Zm))) (Za (Zo (lc (lc Zm))) Zd)) Zc)) ?_
     refine st ?_
     refine e3 ?_
     refine st ?_
     refine cm (Zj.weak (rn []) (ZaL r19 r20 _ ZrV) rfl (WS.mk (Za (Zo (lc (lc Zm))) (Za (Zo (lc (lc Zm))) Zd)) Zc)) ?_
     refine st ?_
     obtain rfl := Zg Zft
     refine st ?_
     exact wx (WS.mk (tp (tp (tp (Za (Zy (web (And.intro Zkh ZnN))) Zd)))) (Zi rfl (cc (cc Zk)) (Zi rfl (cc (cc Zk)) (Zi rfl (cc (cc Zk)) Zc))))
    ·have Zft := ife (And.intro Zkh ZnN) Zft
     (conv => whnf)
     obtain rfl := Zg Zft
     refine st ?_
     exact wx (WS.mk (tp (tp (tp (Za (Zy (web (And.intro Zkh ZnN))) Zd)))) (Zi rfl (cc (cc Zk)) (Zi rfl (cc (cc Zk)) (Zi rfl (cc (cc Zk)) Zc))))
   ·have Zda := ife Zkh Zda
    (conv => whnf)
    obtain rfl := Zg Zda
    refine dp ?_
    refine dp ?_
    have Zft := ife Zkh Zft
    obtain rfl := Zg Zft
    refine st ?_
    exact wx (WS.mk (tp (tp (tp (Za (Zy (web Zkh)) Zd)))) (Zi rfl (cc (cc Zk)) (Zi rfl (cc (cc Zk)) (Zi rfl (cc (cc Zk)) Zc))))
  obtain ⟨r0, hw⟩ := hw
  (conv => whnf)
  refine AWP.weak r0 hw ?_
  refine AWP.seq ?_
  obtain ⟨c27, Zgr, hF⟩ := bind_some hF
  obtain ⟨c30, ZfD, hF⟩ := bind_some hF
  obtain ⟨c32, ZbR, hF⟩ := bind_some hF
  refine AWP.cutN (fun T => ∃ r, WS r T ⟨[(6, .c none (.v (.bool c32)))], []⟩) ?_ (fun T hw => ?_)
  ·refine nn ?_
   refine Or.inl (Exists.intro 16 (Exists.intro [[], [], [], [], [], [], [], [], [], [], [], [], [], [], [], []] (Exists.intro [([36, 37, 38, 39, 40, 41, 42, 43, 44, 45, 46, 47, 48, 49, 50, 51], [], []), ([37, 38, 39, 40, 41, 42, 43, 44, 45, 46, 47, 48, 49, 50, 51], [], []), ([38, 39, 40, 41, 42, 43, 44, 45, 46, 47, 48, 49, 50, 51], [], []), ([38, 39, 40, 41, 42, 43, 44, 45, 46, 47, 48, 49, 50, 51], [], []), ([40, 41, 42, 43, 44, 45, 46, 47, 48, 49, 50, 51], [], []), ([38, 39, 40, 41, 42, 43, 44, 45, 46, 47, 48, 49, 50, 51], [], []), ([38, 39, 40, 41, 42, 43, 44, 45, 46, 47, 48, 49, 50, 51], [], []), ([43, 44, 45, 46, 47, 48, 49, 50, 51], [], []), ([44, 45, 46, 47, 48, 49, 50, 51], [], []), ([45, 46, 47, 48, 49, 50, 51], [], []), ([46, 47, 48, 49, 50, 51], [], []), ([47, 48, 49, 50, 51], [], []), ([47, 48, 49, 50, 51], [], []), ([49, 50, 51], [], []), ([47, 48, 49, 50, 51], [], []), ([47, 48, 49, 50, 51], [], [])] (Exists.intro [36, 37, 38, 39, 40, 41, 42, 43, 44, 45, 46, 47, 48, 49, 50, 51] (And.intro (by decide +kernel) ?_)))))
   refine dp ?_
   refine dp ?_
   refine st ?_
   refine Zh true (fun Zcm => ?_) (fun Zcm => ?_)
   ·have Zgr := ift Zcm Zgr
    obtain ⟨r25, Zoo, Zgr⟩ := bind_some Zgr
    obtain ⟨r26, ZpN, Zgr⟩ := bind_some Zgr
    (conv => whnf)
    refine dp ?_
    refine dp ?_
    (refine st ?_; apply Exists.intro; apply Exists.intro; apply And.intro; (focus ((conv => whnf); refine Exists.intro [] ?_; (conv => whnf); refine And.intro rfl ?_; (conv => whnf); refine Zj.mono (Zj.weak (rn []) (ZbD a e _ Zoo) rfl (WS.mk (Za (Zo (lc (lc Zm))) (Za (Zo (lc (lc Zm))) Zd)) Zc)) ?_; rintro d b ⟨rfl, rfl⟩; exact And.intro rfl (And.intro rfl rfl))); apply And.intro; (focus exact rfl); (conv => whnf))
    refine dp ?_
    refine dp ?_
    (refine st ?_; apply Exists.intro; apply Exists.intro; apply And.intro; (focus ((conv => whnf); refine Exists.intro [] ?_; (conv => whnf); refine And.intro rfl ?_; (conv => whnf); refine Zj.mono (Zj.weak (rn []) (Zd6 a e _ ZpN) rfl (WS.mk (Za (Zo (lc (lc Zm))) (Za (Zo (lc (lc Zm))) Zd)) Zc)) ?_; rintro d b ⟨rfl, rfl⟩; exact And.intro rfl (And.intro rfl rfl))); apply And.intro; (focus exact rfl); (conv => whnf))
    refine dp ?_
    obtain rfl := Zg Zgr
    refine dp ?_
    refine dp ?_
    refine st ?_
    refine Zh true (fun ZfM => ?_) (fun ZfM => ?_)
    ·have ZfD := ift (And.intro Zcm ZfM) ZfD
     obtain ⟨r28, Zpy, ZfD⟩ := bind_some ZfD
     obtain ⟨r29, Zl2, ZfD⟩ := bind_some ZfD
     (conv => whnf)
     refine dp ?_
     refine dp ?_
     (refine st ?_; apply Exists.intro; apply Exists.intro; apply And.intro; (focus ((conv => whnf); refine Exists.intro [] ?_; (conv => whnf); refine And.intro rfl ?_; (conv => whnf); refine Zj.mono (Zj.weak (rn []) (ZbQ a b _ Zpy) rfl (WS.mk (Za (Zo (lc (lc Zm))) (Za (Zo (lc (lc Zm))) Zd)) Zc)) ?_; rintro d b ⟨rfl, rfl⟩; exact And.intro rfl (And.intro rfl rfl))); apply And.intro; (focus exact rfl); (conv => whnf))
     refine dp ?_
     refine dp ?_
     refine st ?_
     refine e3 ?_
     refine st ?_
     refine cm (Zj.weak (rn []) (Zfj a b _ Zl2) rfl (WS.mk (Za (Zo (lc (lc Zm))) (Za (Zo (lc (lc Zm))) Zd)) Zc)) ?_
     refine st ?_
     obtain rfl := Zg ZfD
     refine st ?_
     refine Zh true (fun ZlH => ?_) (fun ZlH => ?_)
     ·have ZbR := ift (And.intro Zcm (And.intro ZfM ZlH)) ZbR
      obtain ⟨r31, Zq8, ZbR⟩ := bind_some ZbR
      (conv => whnf)
      refine st ?_
      refine e3 ?_
      refine st ?_
      refine cm (Zj.weak (rn []) (Zbc _ Zq8) rfl (WS.mk Zd Zc)) ?_
      refine st ?_
      obtain rfl := Zg ZbR
      refine st ?_
      exact wx (WS.mk (Za (Zy (web (And.intro Zcm (And.intro ZfM ZlH)))) Zd) Zc)
     ·have ZbR := ife (And.intro Zcm (And.intro ZfM ZlH)) ZbR
      (conv => whnf)
      obtain rfl := Zg ZbR
      refine st ?_
      exact wx (WS.mk (Za (Zy (web (And.intro Zcm (And.intro ZfM ZlH)))) Zd) Zc)
    ·have ZfD := ife (And.intro Zcm ZfM) ZfD
     (conv => whnf)
     obtain rfl := Zg ZfD
     have ZbR := ife (And.intro Zcm ZfM) ZbR
     obtain rfl := Zg ZbR
     refine st ?_
     exact wx (WS.mk (Za (Zy (web (And.intro Zcm ZfM))) Zd) Zc)
   ·have Zgr := ife Zcm Zgr
    (conv => whnf)
    obtain rfl := Zg Zgr
    refine dp ?_
    refine dp ?_
    have ZfD := ife Zcm ZfD
    obtain rfl := Zg ZfD
    have ZbR := ife Zcm ZbR
    obtain rfl := Zg ZbR
    refine st ?_
    exact wx (WS.mk (Za (Zy (web Zcm)) Zd) Zc)
  obtain ⟨r0, hw⟩ := hw
  (conv => whnf)
  refine AWP.weak r0 hw ?_
  obtain rfl := Zg hF
  refine ns ?_
  refine Exists.intro [] ?_
  refine st ?_
  exact wx (WS.mk (tc Zd) Zc)

theorem Zo0 (a b : Ze) : ZaI a b = some (decide (ltE a b)) := by
 rw [ZaI]
 congr 1
 rw [ByteArray.toList_eq, ByteArray.toList_eq, bytesLess_eq, Bool.eq_iff_iff]
 unfold ltE
 simp
def ZfY : List Ze → Ze → List Ze
 | [], e => [e]
 | x :: l, e => if ltE x e then x :: ZfY l e else if x = e then e :: l else e :: x :: l
theorem Ziy (l : List Ze) (e x : Ze) : x ∈ ZfY l e ↔ x ∈ l ∨ x = e := by
 induction l with
 | nil => simp [ZfY]
 | cons y l ih =>
  unfold ZfY
  split
  ·rw [List.mem_cons, ih, List.mem_cons]
   constructor
   ·rintro (h | h | h) <;> simp [h]
   ·rintro ((h | h) | h) <;> simp [h]
  ·split
   ·rename_i h; subst h; simp
    intro h; exact .inl h
   ·simp only [List.mem_cons]
    constructor
    ·rintro (h | h | h) <;> simp [h]
    ·rintro ((h | h) | h) <;> simp [h]
theorem ZmE (l : List Ze) (e : Ze) (h : SS l) : SS (ZfY l e) := by
 induction l with
 | nil => simp [ZfY, SS]
 | cons y l ih =>
  have h' := List.pairwise_cons.1 h
  unfold ZfY
  split
  ·rename_i hlt
   refine List.pairwise_cons.2 ⟨fun z hz => ?_, ih h'.2⟩
   rcases (Ziy l e z).1 hz with hz | rfl
   ·exact h'.1 z hz
   ·exact hlt
  ·rename_i hlt
   split
   ·rename_i he; subst he; exact h
   ·rename_i hne
    have hlt2 : ltE e y := by
     rcases ZfR e y with h1 | h1 | h1
     ·exact h1
     ·exact absurd h1.symm hne
     ·exact absurd h1 hlt
    refine List.pairwise_cons.2 ⟨fun z hz => ?_, h⟩
    rcases List.mem_cons.1 hz with rfl | hz
    ·exact hlt2
    ·exact Zex hlt2 (h'.1 z hz)
theorem Zk5 (l : List Ze) (e : Ze) : (ZfY l e).length ≤ l.length + 1 := by
 induction l with
 | nil => simp [ZfY]
 | cons y l ih =>
  unfold ZfY
  split
  ·simpa using ih
  ·split <;> simp
theorem ZoP {l pre post : List Ze} {k : Nat} (h : l = pre ++ post) (hk : k = pre.length) : slL l ((k : Nat) : Int) ((l.length : Nat) : Int) = some post := by
 subst h hk
 unfold slL
 rw [if_pos ⟨by omega, by simp; omega, by omega⟩]
 rw [show ((((pre ++ post).length : Nat) : Int)).toNat = (pre ++ post).length from Int.toNat_natCast _, show (((pre.length : Nat) : Int)).toNat = pre.length from Int.toNat_natCast _, List.take_length, List.drop_left]
theorem eqE (x e : Ze) : ((x.fCon.toList == e.fCon.toList) && ((x.fN == e.fN) && true)) = decide (x = e) := by
 rw [Zfy, Bool.and_true, Bool.eq_iff_iff]
 cases x; cases e
 simp [Ze.mk.injEq]
theorem ZlA {l pre post out : List Ze} (e : Ze) {k : Nat} (h : l = pre ++ post) (hk : k = pre.length) (hs : out.length + post.length ≤ 1000) : Z2 l e out k = some ((out ++ [e]) ++ post) := by
 rw [Z2, ZoP h hk, Z5, ZcD _ (by simp; omega)]
theorem ZoF (l : List Ze) (e : Ze) : ∀ (post pre out : List Ze) (k : Nat), l = pre ++ post → k = pre.length → out.length + post.length ≤ 900 → k + post.length ≤ 900 →
  ZB l out k e = some (out ++ ZfY post e)
 | [], pre, out, k, h, hk, hs, hs2 => by
  have hkl : ¬ ((k : Int) < ((l.length : Nat) : Int)) := by rw [h, hk]; simp
  rw [ZB, if_neg (by simpa using hkl)]
  simp only [Z5]
  rw [if_neg (by simp), ZcD _ (by simp; simp at hs; omega), if_neg (by simpa using hkl)]
  simp only [Z5]
  rw [if_neg (by simp), ZlA e h hk (by simp at hs ⊢; omega)]
  simp [ZfY]
 | x :: post, pre, out, k, h, hk, hs, hs2 => by
  have hkl : (k : Int) < ((l.length : Nat) : Int) := by rw [h, hk]; simp; omega
  simp only [List.length_cons] at hs hs2
  rw [ZB, if_pos (by simpa using hkl), Zj6 h hk]
  simp only [Z5, Zo0]
  unfold ZfY
  by_cases hlt : ltE x e
  ·rw [if_pos (by simpa using hlt), if_pos hlt, ZcD _ (by simp; omega), ZcD _ (by omega), ZoF l e post (pre ++ [x]) (out ++ [x]) (k + 1) (by rw [h]; simp) (by rw [hk]; simp) (by simp; omega) (by omega)]
   simp
  ·rw [if_neg (by simpa using hlt), if_neg hlt, ZcD _ (by simp; omega), if_pos (by simpa using hkl)]
   simp only [Z5, eqE]
   by_cases he : x = e
   ·rw [if_pos (by simpa using he), if_pos he, ZcD _ (by omega), ZlA (pre := pre ++ [x]) (post := post) e (by rw [h]; simp) (by rw [hk]; simp) (by omega)]
    simp
   ·rw [if_neg (by simpa using he), if_neg he, ZlA (pre := pre) (post := x :: post) e h hk (by simp; omega)]
    simp
theorem Zor (l : List Ze) (e : Ze) (h : l.length ≤ 800) : Zal l e = some (ZfY l e) := by
 rw [Zal, ZoF l e l [] [] 0 rfl rfl (by simp; omega) (by omega)]; rfl
theorem Zj1 (b : Zf) : ∀ (post acc : List Ze) (k : Nat), acc.length + post.length ≤ 700 → SS acc → ∃ m, ZK acc k b post = some (if 16 < m.length then ⟨true, []⟩ else ⟨false, m⟩) ∧ SS m ∧ ∀ x, x ∈ m ↔ x ∈ acc ∨ x ∈ post
 | [], acc, k, h, hs => by
  refine ⟨acc, ?_, hs, fun x => by simp⟩
  rw [ZK, Zao, Z5]
  by_cases h16 : 16 < acc.length
  ·rw [if_pos (by simp; omega), if_pos h16]
  ·rw [if_neg (by simp; omega), if_neg h16]
 | x :: post, acc, k, h, hs => by
  simp only [List.length_cons] at h
  have hl := Zk5 acc x
  obtain ⟨m, h1, h2, h3⟩ := Zj1 b post (ZfY acc x) (k + 1) (by omega) (ZmE _ _ hs)
  refine ⟨m, ?_, h2, fun z => ?_⟩
  ·rw [ZK, Zor _ _ (by omega), Z5, h1]
  ·rw [h3, Ziy, List.mem_cons, or_assoc]
theorem ZjA (a b : Zf) : ∀ (post acc : List Ze) (k : Nat), acc.length + post.length + b.fList.length ≤ 700 → SS acc → ∃ m, ZJ acc k a b post = some (if 16 < m.length then ⟨true, []⟩ else ⟨false, m⟩) ∧ SS m ∧ ∀ x, x ∈ m ↔ x ∈ acc ∨ x ∈ post ∨ x ∈ b.fList
 | [], acc, k, h, hs => by
  obtain ⟨m, h1, h2, h3⟩ := Zj1 b b.fList acc 0 (by simpa using h) hs
  refine ⟨m, ?_, h2, fun x => by rw [h3]; simp⟩
  rw [ZJ, h1]
 | x :: post, acc, k, h, hs => by
  simp only [List.length_cons] at h
  have hl := Zk5 acc x
  obtain ⟨m, h1, h2, h3⟩ := ZjA a b post (ZfY acc x) (k + 1) (by omega) (ZmE _ _ hs)
  refine ⟨m, ?_, h2, fun z => ?_⟩
  ·rw [ZJ, Zor _ _ (by omega), Z5, h1]
  ·rw [h3, Ziy, List.mem_cons, or_assoc, or_assoc]
theorem Zm4 (a b : Zf) (ha : a.fList.length ≤ 100) (hb : b.fList.length ≤ 100) : ZaA a b = some (uni a b) := by
 rw [ZaA, Zao]
 unfold uni
 split
 ·rfl
 ·obtain ⟨m, h1, h2, h3⟩ := ZjA a b a.fList [] 0 (by simp; omega) List.Pairwise.nil
  rw [h1]
  unfold mk
  rw [← ZfS m (ZbW (a.fList ++ b.fList)) h2 (Zeu _) fun x => by rw [h3, Zcq]; simp]
theorem Zi9 (s : Zf) : Zag s = some (decide (s.fList.length ≤ 100)) := by
 rw [Zag]
 congr 1
 exact decide_eq_decide.2 (by omega)
theorem ZiZ (a b : Zf) (e : Ze) : Z7 a b e = some true := by
 rw [Z7, Zi9, Zi9, Zgu]
 by_cases ha : a.fList.length ≤ 100
 ·by_cases hb : b.fList.length ≤ 100
  ·simp only [ha, hb, decide_true, Bool.not_true, Bool.false_eq_true, if_false, Z5, Zos, Zba, ZnE, ZjN, if_true, Zbb, Zao, Zep a b ha hb, Zm4 a b ha hb, Zl7, ZmI, Zhc, Zly, beq_self_eq_true]
  ·simp [ha, hb, Z5]
 ·simp [ha, Z5]

theorem Zjh {l m : List Ze} (h : ∀ x, x ∈ l ↔ x ∈ m) : mk l = mk m := by unfold mk; rw [Zlo h]
theorem ZpV {l m : List Ze} (h : 16 < (ZbW l).length) (hs : ∀ x, x ∈ l → x ∈ m) : mk m = ⟨true, []⟩ := by
 have := Zn1 hs
 unfold mk
 rw [if_pos (by omega)]
theorem Zkz (a b : Zf) : uni a b = uni b a := by
 unfold uni
 rw [Bool.or_comm, Zjh (l := a.fList ++ b.fList) (m := b.fList ++ a.fList) fun x => by simp [or_comm]]
theorem ZkN (a b c : Zf) (ha : a.fAll = false) (hb : b.fAll = false) (hc : c.fAll = false) : uni (uni a b) c = mk (a.fList ++ b.fList ++ c.fList) := by
 have e : uni a b = mk (a.fList ++ b.fList) := by unfold uni; rw [ha, hb]; rfl
 rw [e]
 by_cases h : 16 < (ZbW (a.fList ++ b.fList)).length
 ·rw [ZpV h (fun x hx => List.mem_append_left c.fList hx), show mk (a.fList ++ b.fList) = ⟨true, []⟩ from if_pos h]; rfl
 ·rw [show mk (a.fList ++ b.fList) = ⟨false, ZbW (a.fList ++ b.fList)⟩ from if_neg h]
  unfold uni
  rw [hc]
  show mk (ZbW (a.fList ++ b.fList) ++ c.fList) = _
  exact Zjh fun x => by simp only [List.mem_append, Zcq]
theorem ZcM (a b : Zf) (h : (a.fAll || b.fAll) = true) : uni a b = ⟨true, []⟩ := by unfold uni; rw [if_pos h]
theorem Znc (a b c : Zf) : uni (uni a b) c = uni a (uni b c) := by
 rw [Zkz a (uni b c)]
 by_cases ha : a.fAll = true
 ·rw [ZcM a b (by simp [ha]), ZcM ⟨true, []⟩ c rfl, ZcM (uni b c) a (by simp [ha])]
 by_cases hb : b.fAll = true
 ·rw [ZcM a b (by simp [hb]), ZcM ⟨true, []⟩ c rfl, ZcM b c (by simp [hb]), ZcM ⟨true, []⟩ a rfl]
 by_cases hc : c.fAll = true
 ·rw [ZcM b c (by simp [hc]), ZcM ⟨true, []⟩ a rfl, ZcM (uni a b) c (by simp [hc])]
 rw [Bool.not_eq_true] at ha hb hc
 rw [ZkN a b c ha hb hc, ZkN b c a hb hc ha]
 exact Zjh fun x => by simp only [List.mem_append]; constructor <;> rintro ((h | h) | h) <;> simp [h]
theorem ZfO (l : List Ze) (e : Ze) : l.any (ZdT e) = decide (e ∈ l) := by
 have : ∀ x, ZdT e x = decide (e = x) := fun x => eqE e x
 rw [Bool.eq_iff_iff, List.any_eq_true, decide_eq_true_iff]
 constructor
 ·rintro ⟨x, hx, h⟩
  rw [this, decide_eq_true_iff] at h
  exact h ▸ hx
 ·intro h; exact ⟨e, h, by rw [this]; simp⟩
theorem Zmu (a b : Zf) (e : Ze) : ((uni a b).fAll = true) ∨ (a.fAll = false ∧ b.fAll = false ∧ (uni a b).fAll = false ∧ ∀ x, x ∈ (uni a b).fList ↔ x ∈ a.fList ∨ x ∈ b.fList) := by
 by_cases h : (a.fAll || b.fAll) = true
 ·rw [ZcM a b h]; exact .inl rfl
 ·rw [Bool.not_eq_true] at h
  obtain ⟨ha, hb⟩ := Bool.or_eq_false_iff.1 h
  have e : uni a b = mk (a.fList ++ b.fList) := by unfold uni; rw [ha, hb]; rfl
  rw [e]
  unfold mk
  split
  ·exact .inl rfl
  ·exact .inr ⟨ha, hb, rfl, fun x => by show x ∈ ZbW _ ↔ _; rw [Zcq, List.mem_append]⟩
theorem ZlC (a b : Zf) : ZcI a (uni a b) = true ∧ ZcI b (uni a b) = true := by
 rcases Zmu a b ⟨ByteArray.mk #[], 0⟩ with h | ⟨ha, hb, h, hm⟩
 ·unfold ZcI; simp [h]
 ·have hh : ∀ x, Zd3 (uni a b) x = decide (x ∈ (uni a b).fList) := fun x => by unfold Zd3; rw [h, ZfO]; rfl
  unfold ZcI
  rw [ha, hb, h]
  simp only [Bool.or_self, Bool.false_eq_true, if_false, List.all_eq_true]
  constructor
  ·intro x hx; rw [hh]; simp [hm, hx]
  ·intro x hx; rw [hh]; simp [hm, hx]
theorem Zqg (a b : Zf) (e : Ze) (hu : ¬ (uni a b).fAll = true) : (Zd3 (uni a b) e == (if Zd3 a e = true then true else Zd3 b e)) = true := by
 rcases Zmu a b e with h | ⟨ha, hb, h, hm⟩
 ·exact absurd h hu
 ·have e1 : Zd3 (uni a b) e = decide (e ∈ (uni a b).fList) := by unfold Zd3; rw [h, ZfO]; rfl
  have e2 : Zd3 a e = decide (e ∈ a.fList) := by unfold Zd3; rw [ha, ZfO]; rfl
  have e3 : Zd3 b e = decide (e ∈ b.fList) := by unfold Zd3; rw [hb, ZfO]; rfl
  rw [e1, e2, e3, beq_iff_eq, Bool.eq_iff_iff]
  by_cases h1 : e ∈ a.fList <;> by_cases h2 : e ∈ b.fList <;> simp [hm, h1, h2]
theorem ZhZ (l : Za9) (e : Ze) : Z4 l e = some true := by
 rw [Z4, Zi9, Zi9, Zi9, Zgu]
 generalize l.e0 = a
 generalize l.e1 = b
 generalize l.e2 = c
 by_cases ha : a.fList.length ≤ 100
 ·by_cases hb : b.fList.length ≤ 100
  ·by_cases hc : c.fList.length ≤ 100
   ·have u1 := ZmM a b
    have u2 := ZmM b c
    have hw := ZlC a b
    have h1 : Zd3 ⟨false, [e]⟩ e = true := by unfold Zd3; simp [ZiK]
    simp only [ha, hb, hc, decide_true, Bool.not_true, Bool.false_eq_true, if_false, Z5, Zep a b ha hb, Zep (uni a b) c (by omega) hc, Zep b c hb hc, Zep a (uni b c) ha (by omega), Znc, ZjN,
     Zhc, hw.1, hw.2, if_true, Zos, ZnE, Zl7, h1, Zep b a hb ha, Zkz b a]
    by_cases hu : (uni a b).fAll = true
    ·rw [if_pos hu]; rfl
    ·rw [if_neg hu]
     have h2 := Zqg a b e hu
     cases h3 : Zd3 a e
     ·rw [h3] at h2
      simp only [Bool.false_eq_true, if_false] at h2 ⊢
      simp only [Z5, h2]; rfl
     ·rw [h3] at h2
      simp only [if_true] at h2 ⊢
      simp only [Z5, h2]; rfl
   ·simp [ha, hb, hc, Z5]
  ·simp [ha, hb, Z5]
 ·simp [ha, Z5]

end Go.Proofs.YtafniolcakiljaaDoor
