/- Part 8 of the proof: the plain law. It holds for every input, without conditions. -/
import Derived.Lib.LaidTab
import Derived.Lib.ItoaNum
import Derived.KernelRfl
import Derived.Stop.LaidErr
import Derived.Test.YtafniolcakiljaaDoorVlA
import Derived.Test.YtafniolcakiljaaDoorVlB
import Derived.Test.YtafniolcakiljaaDoorVlC
import Derived.Test.YtafniolcakiljaaDoorVlD
import Derived.Test.YtafniolcakiljaaDoorVlE
import Derived.Test.YtafniolcakiljaaDoorVlF
import Derived.Test.YtafniolcakiljaaDoorVlG
set_option linter.unusedVariables false
set_option linter.unusedSimpArgs false
set_option maxRecDepth 100000
namespace Go.Proofs.YtafniolcakiljaaDoor
open Go Go.Am
theorem globs_pow {W : World} (h : Lib.TabIs Tryd.prog W "internal/strconv.uint64pow10" .u64 Lib.pow10Tab) : ∀ x ∈ powCells, old W x.1 x.2.1 ∧ x.2.2 (W.cell? ⟨x.1, x.2.1, none⟩) := by
  have hg : Tryd.prog.globalNamed "internal/strconv.uint64pow10" = some 5 := by kernel_rfl
  unfold Lib.TabIs World.var? at h
  rw [hg] at h
  simp only [Option.bind_some] at h
  split at h
  case h_2 => cases h
  rename_i cs t f hc
  injection h with h
  have hlt : 5 < W.heap.size := by
    rcases Nat.lt_or_ge 5 W.heap.size with h1 | h1
    · exact h1
    · rw [Array.getElem?_eq_none h1] at hc; cases hc
  have hcell : ∀ i, W.cell? ⟨5, i, none⟩ = (Lib.pow10Tab[i]?).map fun z => Value.int .u64 z := fun i => by
    have e0 : ((Lib.pow10Tab.map fun z => Value.int .u64 z).toArray)[i]? = (Lib.pow10Tab.map fun z => Value.int .u64 z)[i]? := List.getElem?_toArray
    simp only [World.cell?, hc, Option.isSome_none, Bool.false_eq_true, if_false, h]
    rw [e0, List.getElem?_map]
  intro x hx
  rcases List.mem_cons.1 hx with rfl | hx
  · refine ⟨hlt, ?_⟩
    show noCell (W.cell? ⟨5, 20, none⟩)
    rw [hcell]; rfl
  · obtain ⟨i, hi, rfl⟩ := List.mem_map.1 hx
    have hi := List.mem_range.1 hi
    refine ⟨hlt, ?_⟩
    show powCell i (W.cell? ⟨5, i, none⟩)
    rw [hcell, Lib.pow10Tab, List.getElem?_map, List.getElem?_range hi]
    rfl
theorem tab_third {W : World} {a b : String × DataW Unit} {r : List (String × DataW Unit)} (h : laidMet Tryd.prog (a :: b :: ("internal/strconv.uint64pow10", Lib.tabData .u64 Lib.pow10Tab) :: r) W) : Lib.TabIs Tryd.prog W "internal/strconv.uint64pow10" .u64 Lib.pow10Tab :=
  Lib.tabIs_of_head (g := 5) (t := 159) (e := 117) (n := 20) (by kernel_rfl) (by kernel_rfl) (by kernel_rfl) (by kernel_rfl) (by kernel_rfl) (by kernel_rfl) h.tail.tail
theorem globs0 {W : World} (h : Lib.TabIs Tryd.prog W "internal/strconv.uint64pow10" .u64 Lib.pow10Tab) (hr : restCells = []) : Globs Tryd.prog W (old W) := fun x hx => globs_pow h x (by
  have hx : x ∈ powCells ++ restCells := hx
  rwa [hr, List.append_nil] at hx)
end Go.Proofs.YtafniolcakiljaaDoor

