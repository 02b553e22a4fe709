/- Part 12 of the proof: the program's functions as Lean functions with their walks, and the plain law. It holds for every input, without conditions. -/
import Derived.Lib.LaidTab
import Derived.Lib.ItoaNum
import Derived.KernelRfl
import Derived.Stop.LaidErr
import Derived.Test.YtafniolcakiljaaDoorUsA
import Derived.Test.YtafniolcakiljaaDoorUsB
import Derived.Test.YtafniolcakiljaaDoorUsC
import Derived.Test.YtafniolcakiljaaDoorUsD
import Derived.Test.YtafniolcakiljaaDoorUsE
import Derived.Test.YtafniolcakiljaaDoorUsF
import Derived.Test.YtafniolcakiljaaDoorUsG
import Derived.Test.YtafniolcakiljaaDoorUsH
import Derived.Test.YtafniolcakiljaaDoorUsI
import Derived.Test.YtafniolcakiljaaDoorUsJ
import Derived.Test.YtafniolcakiljaaDoorUsK
set_option linter.unusedVariables false
set_option linter.unusedSimpArgs false
set_option maxRecDepth 100000
namespace Go.Proofs.YtafniolcakiljaaDoor
open Go Go.Am
theorem ZmV {W : World} (h : Lib.TabIs Tryd.prog W "internal/strconv.uint64pow10" .u64 Lib.pow10Tab) : ∀ x ∈ ZiR, old W x.1 x.2.1 ∧ x.2.2 (W.cell? ⟨x.1, x.2.1, none⟩) := by
 have hg : Tryd.prog.globalNamed "internal/strconv.uint64pow10" = some 5 := by kernel_rfl
 unfold Lib.TabIs World.var? at h
 rw [hg] at h
 simp only [Option.bind_some] at h
 split at h
 case h_2 => cases h
 rename_i cs t f hc
 injection h with h
 have hlt : 5 < W.heap.size := by
  rcases Nat.lt_or_ge 5 W.heap.size with h1 | h1
  ·exact h1
  ·rw [Array.getElem?_eq_none h1] at hc; cases hc
 have hcell : ∀ i, W.cell? ⟨5, i, none⟩ = (Lib.pow10Tab[i]?).map fun z => Value.int .u64 z := fun i => by
  have e0 : ((Lib.pow10Tab.map fun z => Value.int .u64 z).toArray)[i]? = (Lib.pow10Tab.map fun z => Value.int .u64 z)[i]? := List.getElem?_toArray
  simp only [World.cell?, hc, Option.isSome_none, Bool.false_eq_true, if_false, h]
  rw [e0, List.getElem?_map]
 intro x hx
 rcases List.mem_cons.1 hx with rfl | hx
 ·refine ⟨hlt, ?_⟩
  show Zij (W.cell? ⟨5, 20, none⟩)
  rw [hcell]; rfl
 ·obtain ⟨i, hi, rfl⟩ := List.mem_map.1 hx
  have hi := List.mem_range.1 hi
  refine ⟨hlt, ?_⟩
  show Zj3 i (W.cell? ⟨5, i, none⟩)
  rw [hcell, Lib.pow10Tab, List.getElem?_map, List.getElem?_range hi]
  rfl
theorem tab_third {W : World} {a b : String × DataW Unit} {r : List (String × DataW Unit)} (h : laidMet Tryd.prog (a :: b :: ("internal/strconv.uint64pow10", Lib.tabData .u64 Lib.pow10Tab) :: r) W) : Lib.TabIs Tryd.prog W "internal/strconv.uint64pow10" .u64 Lib.pow10Tab :=
 Lib.tabIs_of_head (g := 5) (t := 159) (e := 117) (n := 20) (by kernel_rfl) (by kernel_rfl) (by kernel_rfl) (by kernel_rfl) (by kernel_rfl) (by kernel_rfl) h.tail.tail
theorem globs0 {W : World} (h : Lib.TabIs Tryd.prog W "internal/strconv.uint64pow10" .u64 Lib.pow10Tab) (hr : Zhn = []) : Zfi Tryd.prog W (old W) := fun x hx => ZmV h x (by
 have hx : x ∈ ZiR ++ Zhn := hx
 rwa [hr, List.append_nil] at hx)

theorem ZlF {es : List E} (h : Sh tab 41 es) : ∃ e : Ze, es = e.cells := by
 obtain ⟨parts, rfl, hl, hf⟩ := ZjW h (fs := [(9, 0), (3, 1)]) rfl
 obtain ⟨a, b, rfl⟩ := ZqK hl
 obtain ⟨s, rfl, hs⟩ := Zni (hf 0 9 0 a rfl rfl) rfl
 obtain ⟨n, rfl, hn⟩ := Zpr (hf 1 3 1 b rfl rfl) (k := .i64) rfl
 exact ⟨⟨s, n⟩, rfl⟩
theorem ZoO {es : List E} (h : Sh tab 24 es) : ∃ l : List Ze, es = [.sl (l.map Ze.cells)] := by
 obtain ⟨rows, rfl, hl, hr⟩ := Zn3 h (e := 41) rfl
 obtain ⟨l, rfl⟩ := ZkW (f := Ze.cells) rows fun row hm => ZlF (hr row hm)
 exact ⟨l, rfl⟩
theorem ZiL {es : List E} (h : Sh tab 26 es) : ∃ s : Zf, es = s.cells := by
 obtain ⟨parts, rfl, hl, hf⟩ := ZjW h (fs := [(4, 0), (24, 1)]) rfl
 obtain ⟨a, b, rfl⟩ := ZqK hl
 obtain ⟨all, rfl⟩ := Zpc (hf 0 4 0 a rfl rfl) rfl
 obtain ⟨l, rfl⟩ := ZoO (hf 1 24 1 b rfl rfl)
 exact ⟨⟨all, l⟩, rfl⟩
theorem ZnY {es : List E} (h : Sh tab 54 es) : ∃ l : Za9, es = l.cells := by
 obtain ⟨parts, rfl, hl, hf⟩ := ZoI h (n := 3) (e := 26) rfl
 obtain ⟨a, b, c, rfl⟩ : ∃ a b c, parts = [a, b, c] := by
  match parts, hl with
  | [a, b, c], _ => exact ⟨a, b, c, rfl⟩
 obtain ⟨a, rfl⟩ := ZiL (hf 0 a rfl)
 obtain ⟨b, rfl⟩ := ZiL (hf 1 b rfl)
 obtain ⟨c, rfl⟩ := ZiL (hf 2 c rfl)
 exact ⟨⟨a, b, c⟩, rfl⟩
theorem valuesSets_true {a b e : List E} (ha : Sh tab 26 a) (hb : Sh tab 26 b) (he : Sh tab 41 e) : CallsA Tryd.prog 8 [.agg a, .agg b, .agg e] (fun r => r = .c none (.v (.bool true))) := by
 obtain ⟨a, rfl⟩ := ZiL ha
 obtain ⟨b, rfl⟩ := ZiL hb
 obtain ⟨e, rfl⟩ := ZlF he
 have h := Zen a b e true (ZiZ a b e)
 unfold Z7.M at h
 exact Zj.mono h fun d b h => h.1
theorem valuesUnion_true {l e : List E} (hl : Sh tab 54 l) (he : Sh tab 41 e) : CallsA Tryd.prog 9 [.agg l, .agg e] (fun r => r = .c none (.v (.bool true))) := by
 obtain ⟨l, rfl⟩ := ZnY hl
 obtain ⟨e, rfl⟩ := ZlF he
 have h := Zd1 l e true (ZhZ l e)
 unfold Z4.M at h
 exact Zj.mono h fun d b h => h.1

end Go.Proofs.YtafniolcakiljaaDoor
