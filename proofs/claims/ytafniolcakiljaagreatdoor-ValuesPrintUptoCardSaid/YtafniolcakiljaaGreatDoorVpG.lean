/- Part 7 of the proof: the plain law. It holds for every input, without conditions. -/
import Derived.Lib.LaidTab
import Derived.Lib.ItoaNum
import Derived.KernelRfl
import Derived.Stop.LaidErr
import Derived.Test.YtafniolcakiljaaGreatDoorRows
import Derived.Test.YtafniolcakiljaaGreatDoorVpA
import Derived.Test.YtafniolcakiljaaGreatDoorVpB
import Derived.Test.YtafniolcakiljaaGreatDoorVpC
import Derived.Test.YtafniolcakiljaaGreatDoorVpD
import Derived.Test.YtafniolcakiljaaGreatDoorVpE
import Derived.Test.YtafniolcakiljaaGreatDoorVpF
set_option linter.unusedVariables false
set_option linter.unusedSimpArgs false
set_option maxRecDepth 100000
namespace Go.Proofs.YtafniolcakiljaaGreatDoor
open Go Go.Am
theorem globs_pow {W : World} (h : Lib.TabIs Tryz.prog W "internal/strconv.uint64pow10" .u64 Lib.pow10Tab) : ∀ x ∈ powCells, old W x.1 x.2.1 ∧ x.2.2 (W.cell? ⟨x.1, x.2.1, none⟩) := by
  have hg : Tryz.prog.globalNamed "internal/strconv.uint64pow10" = some 5 := by kernel_rfl
  unfold Lib.TabIs World.var? at h
  rw [hg] at h
  simp only [Option.bind_some] at h
  split at h
  case h_2 => cases h
  rename_i cs t f hc
  injection h with h
  have hlt : 5 < W.heap.size := by
    rcases Nat.lt_or_ge 5 W.heap.size with h1 | h1
    · exact h1
    · rw [Array.getElem?_eq_none h1] at hc; cases hc
  have hcell : ∀ i, W.cell? ⟨5, i, none⟩ = (Lib.pow10Tab[i]?).map fun z => Value.int .u64 z := fun i => by
    have e0 : ((Lib.pow10Tab.map fun z => Value.int .u64 z).toArray)[i]? = (Lib.pow10Tab.map fun z => Value.int .u64 z)[i]? := List.getElem?_toArray
    simp only [World.cell?, hc, Option.isSome_none, Bool.false_eq_true, if_false, h]
    rw [e0, List.getElem?_map]
  intro x hx
  rcases List.mem_cons.1 hx with rfl | hx
  · refine ⟨hlt, ?_⟩
    show noCell (W.cell? ⟨5, 20, none⟩)
    rw [hcell]; rfl
  · obtain ⟨i, hi, rfl⟩ := List.mem_map.1 hx
    have hi := List.mem_range.1 hi
    refine ⟨hlt, ?_⟩
    show powCell i (W.cell? ⟨5, i, none⟩)
    rw [hcell, Lib.pow10Tab, List.getElem?_map, List.getElem?_range hi]
    rfl
theorem tab_third {W : World} {a b : String × DataW Unit} {r : List (String × DataW Unit)} (h : laidMet Tryz.prog (a :: b :: ("internal/strconv.uint64pow10", Lib.tabData .u64 Lib.pow10Tab) :: r) W) : Lib.TabIs Tryz.prog W "internal/strconv.uint64pow10" .u64 Lib.pow10Tab :=
  Lib.tabIs_of_head (g := 5) (t := 126) (e := 107) (n := 20) (by kernel_rfl) (by kernel_rfl) (by kernel_rfl) (by kernel_rfl) (by kernel_rfl) (by kernel_rfl) h.tail.tail
theorem globs0 {W : World} (h : Lib.TabIs Tryz.prog W "internal/strconv.uint64pow10" .u64 Lib.pow10Tab) (hr : restCells = []) : Globs Tryz.prog W (old W) := fun x hx => globs_pow h x (by
  have hx : x ∈ powCells ++ restCells := hx
  rwa [hr, List.append_nil] at hx)
end Go.Proofs.YtafniolcakiljaaGreatDoor

set_option linter.unusedVariables false
set_option linter.unusedSimpArgs false
set_option maxRecDepth 100000
namespace Go.Proofs.YtafniolcakiljaaGreatDoor
open Go Go.Am
theorem trod_iface {P : Program} {W : World} {sp : Nat → Bool} {fuel t : Nat} {ms : Array (String × TypeId)} {nm : String} {d : DataW Unit} {p : List MemPlace} (hi : P.underlying t = some (.interface ms)) :
    ∀ cs : List Value, DataW.trod (fun _ => ()) P W 0 sp false fuel t cs = some (.iface nm d, p) → ∃ u v, cs = [.iface u v] := by
  intro cs h
  cases fuel with
  | zero => simp [DataW.trod] at h
  | succ fuel =>
    unfold DataW.trod at h
    rw [hi] at h
    split at h <;> first | (cases h; done) | (simp at h; done) | exact ⟨_, _, rfl⟩ | simp_all
theorem iface_at {P : Program} {n nm : String} {d : DataW Unit} {r : List (String × DataW Unit)} {W : World} {g ti : Nat} {ms : Array (String × TypeId)} (h : laidMet P ((n, .iface nm d) :: r) W) (hg : P.globalNamed n = some g)
    (ht : (P.globals[g]?).map (·.type) = some ti) (hi : P.underlying ti = some (.interface ms)) : ∃ u v, W.cell? ⟨g, 0, none⟩ = some (.iface u v) := by
  obtain ⟨ps, ⟨g', t, cs, fuel, p, q, h1, h2, h3, h4, h5, h6⟩, hn, hc⟩ := h
  obtain rfl := Option.some.inj (hg.symm.trans h1)
  obtain rfl := Option.some.inj (ht.symm.trans h2)
  obtain ⟨u, v, hcs⟩ := trod_iface hi cs.toList h4
  have := World.var?_cell hg h3 0
  refine ⟨u, v, ?_⟩
  rw [this, ← Array.getElem?_toList, hcs]; rfl
theorem cell_old {W : World} {g : Nat} {v : Value} (h : W.cell? ⟨g, 0, none⟩ = some v) : g < W.heap.size := by
  unfold World.cell? at h
  rcases Nat.lt_or_ge g W.heap.size with h1 | h1
  · exact h1
  · simp only [Array.getElem?_eq_none h1] at h; cases h
theorem globs_full {W : World} {a b c d : String × DataW Unit} {n1 n2 : String} {d1 d2 : DataW Unit} {r : List (String × DataW Unit)} (h : Lib.TabIs Tryz.prog W "internal/strconv.uint64pow10" .u64 Lib.pow10Tab) (hS : W.ShapedOpen Tryz.prog)
    (hL : laidMet Tryz.prog (a :: b :: c :: d :: ("strconv.ErrRange", .iface n1 d1) :: ("strconv.ErrSyntax", .iface n2 d2) :: r) W) : Globs Tryz.prog W (old W) := fun x hx => by
  have hx : x ∈ powCells ++ restCells := hx
  rcases List.mem_append.1 hx with hx | hx
  · exact globs_pow h x hx
  · unfold restCells at hx
    simp only [List.mem_cons, List.not_mem_nil, or_false] at hx
    rcases hx with rfl | rfl | rfl
    · obtain ⟨m, hm⟩ := cell_of_shapedOpen_int (zero := #[.int .i64 0]) (t := 3) hS (of_decide_eq_true (by kernel_rfl)) (by kernel_rfl) rfl (by kernel_rfl) (by kernel_rfl) Tryz.underlying3
      exact ⟨cell_old hm, m, hm⟩
    · obtain ⟨u, v, he⟩ := iface_at (g := 3) (ti := 73) hL.tail.tail.tail.tail.tail (by kernel_rfl) (by kernel_rfl) Tryz.underlying73
      exact ⟨cell_old he, _, he, .inr ⟨u, v, rfl⟩⟩
    · obtain ⟨u, v, he⟩ := iface_at (g := 4) (ti := 73) hL.tail.tail.tail.tail (by kernel_rfl) (by kernel_rfl) Tryz.underlying73
      exact ⟨cell_old he, _, he, .inr ⟨u, v, rfl⟩⟩
end Go.Proofs.YtafniolcakiljaaGreatDoor

set_option linter.unusedVariables false
set_option linter.unusedSimpArgs false
namespace Go.Proofs.YtafniolcakiljaaGreatDoor
open Go Go.Am
mutual
theorem bulk_eq {H : Type} : ∀ d : DataW H, Rows.uptoBulk d = bulk d
  | .lit l => by cases l <;> simp [Rows.uptoBulk, bulk]
  | .nil => by simp [Rows.uptoBulk, bulk]
  | .ptr d => by simp [Rows.uptoBulk, bulk, bulk_eq d]
  | .slice es sp => by simp [Rows.uptoBulk, bulk, bulks_eq es, bulks_eq sp]
  | .agg ps => by simp [Rows.uptoBulk, bulk, bulks_eq ps]
  | .iface _ d => by simp [Rows.uptoBulk, bulk, bulk_eq d]
  | .map es => by simp [Rows.uptoBulk, bulk, bulkKs_eq es]
  | .held _ => by simp [Rows.uptoBulk, bulk]
theorem bulks_eq {H : Type} : ∀ l : List (DataW H), Rows.uptoBulkAll l = bulks l
  | [] => by simp [Rows.uptoBulkAll, bulks]
  | d :: l => by simp [Rows.uptoBulkAll, bulks, bulk_eq d, bulks_eq l]
theorem bulkKs_eq {H : Type} : ∀ l : List (Lit × DataW H), Rows.uptoBulkEntries l = bulkKs l
  | [] => by simp [Rows.uptoBulkEntries, bulkKs]
  | x :: l => by simp [Rows.uptoBulkEntries, bulkKs, bulkK_eq x, bulkKs_eq l]
theorem bulkK_eq {H : Type} : ∀ x : Lit × DataW H, Rows.uptoBulkEntry x = bulkK x
  | (l, d) => by cases l <;> simp [Rows.uptoBulkEntry, bulkK, bulk_eq d]
end
theorem upto_bulks {H : Type} {ds : List (DataW H)} (h : Rows.uptoSmall H ds = true) : bulks ds ≤ 1048576 := by
  have h := of_decide_eq_true h
  rwa [bulks_eq] at h
end Go.Proofs.YtafniolcakiljaaGreatDoor

