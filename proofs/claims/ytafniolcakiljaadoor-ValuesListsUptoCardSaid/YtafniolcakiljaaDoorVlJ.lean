/- Part 10 of the proof: how much there is in what is read. It holds for every input, without conditions. -/
import Derived.Test.YtafniolcakiljaaDoorRows
import Derived.Test.YtafniolcakiljaaDoorVlA
import Derived.Test.YtafniolcakiljaaDoorVlB
import Derived.Test.YtafniolcakiljaaDoorVlC
import Derived.Test.YtafniolcakiljaaDoorVlD
import Derived.Test.YtafniolcakiljaaDoorVlE
import Derived.Test.YtafniolcakiljaaDoorVlF
import Derived.Test.YtafniolcakiljaaDoorVlG
import Derived.Test.YtafniolcakiljaaDoorVlH
import Derived.Test.YtafniolcakiljaaDoorVlI
set_option linter.unusedVariables false
set_option linter.unusedSimpArgs false
namespace Go.Proofs.YtafniolcakiljaaDoor
open Go Go.Am
mutual
theorem bulk_eq {H : Type} : ∀ d : DataW H, Rows.uptoBulk d = bulk d
  | .lit l => by cases l <;> simp [Rows.uptoBulk, bulk]
  | .nil => by simp [Rows.uptoBulk, bulk]
  | .ptr d => by simp [Rows.uptoBulk, bulk, bulk_eq d]
  | .slice es sp => by simp [Rows.uptoBulk, bulk, bulks_eq es, bulks_eq sp]
  | .agg ps => by simp [Rows.uptoBulk, bulk, bulks_eq ps]
  | .iface _ d => by simp [Rows.uptoBulk, bulk, bulk_eq d]
  | .map es => by simp [Rows.uptoBulk, bulk, bulkKs_eq es]
  | .held _ => by simp [Rows.uptoBulk, bulk]
theorem bulks_eq {H : Type} : ∀ l : List (DataW H), Rows.uptoBulkAll l = bulks l
  | [] => by simp [Rows.uptoBulkAll, bulks]
  | d :: l => by simp [Rows.uptoBulkAll, bulks, bulk_eq d, bulks_eq l]
theorem bulkKs_eq {H : Type} : ∀ l : List (Lit × DataW H), Rows.uptoBulkEntries l = bulkKs l
  | [] => by simp [Rows.uptoBulkEntries, bulkKs]
  | x :: l => by simp [Rows.uptoBulkEntries, bulkKs, bulkK_eq x, bulkKs_eq l]
theorem bulkK_eq {H : Type} : ∀ x : Lit × DataW H, Rows.uptoBulkEntry x = bulkK x
  | (l, d) => by cases l <;> simp [Rows.uptoBulkEntry, bulkK, bulk_eq d]
end
theorem upto_bulks {H : Type} {ds : List (DataW H)} (h : Rows.uptoSmall H ds = true) : bulks ds ≤ 1048576 := by
  have h := of_decide_eq_true h
  rwa [bulks_eq] at h
end Go.Proofs.YtafniolcakiljaaDoor
