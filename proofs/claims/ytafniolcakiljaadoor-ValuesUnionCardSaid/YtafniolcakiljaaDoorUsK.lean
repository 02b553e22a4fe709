/- Part 11 of the proof: the abstract machine and its soundness. It holds for every input, without conditions. -/
import Derived.DataReads
import Derived.Carry
import Derived.ChangeOld
import Derived.Test.YtafniolcakiljaaDoorUsA
import Derived.Test.YtafniolcakiljaaDoorUsB
import Derived.Test.YtafniolcakiljaaDoorUsC
import Derived.Test.YtafniolcakiljaaDoorUsD
import Derived.Test.YtafniolcakiljaaDoorUsE
import Derived.Test.YtafniolcakiljaaDoorUsF
import Derived.Test.YtafniolcakiljaaDoorUsG
import Derived.Test.YtafniolcakiljaaDoorUsH
import Derived.Test.YtafniolcakiljaaDoorUsI
import Derived.Test.YtafniolcakiljaaDoorUsJ
set_option linter.unusedVariables false
set_option linter.unusedSimpArgs false
namespace Go.Am
open Go.RowKit
inductive Sh (L : Tab) : Nat → List E → Prop
 | bool (t : Nat) (b : Bool) (h : (L.ti t).k = .bool) : Sh L t [.v (.bool b)]
 | int (t : Nat) (k : IntKind) (n : Int) (h : (L.ti t).k = .int k) (hn : k.min ≤ n ∧ n ≤ k.max) : Sh L t [.v (.int k n)]
 | string (t : Nat) (s : ByteArray) (h : (L.ti t).k = .string) (hs : s.size ≤ maxLen) : Sh L t [.v (.string s)]
 | slice (t e : Nat) (rows : List (List E)) (h : (L.ti t).k = .slice e) (hl : rows.length ≤ maxLen) (hr : ∀ (i : Nat) (row : List E), rows[i]? = some row → Sh L e row) : Sh L t [.sl rows]
 | struct (t : Nat) (fs : List (Nat × Nat)) (parts : List (List E)) (h : (L.ti t).k = .struct fs) (hl : parts.length = fs.length) (hf : ∀ (i ft off : Nat) (part : List E), fs[i]? = some (ft, off) → parts[i]? = some part → Sh L ft part) : Sh L t parts.flatten
 | array (t n e : Nat) (parts : List (List E)) (h : (L.ti t).k = .array n e) (hl : parts.length = n) (hf : ∀ (i : Nat) (part : List E), parts[i]? = some part → Sh L e part) : Sh L t parts.flatten
def Zld (L : Tab) (total : Nat) : Nat → List (Nat × Nat) → Bool
 | off, [] => off == total
 | off, (t, o) :: fs => o == off && Zld L total (off + (L.ti t).size) fs
def simpleIn (L : Tab) (R : List Nat) : Bool := R.all fun t =>
 match (L.ti t).k with
 | .bool | .int _ | .string => true
 | .slice e => R.contains e && (L.ti e).size != 0
 | .array n e => R.contains e && n * (L.ti e).size == (L.ti t).size
 | .struct fs => Zld L (L.ti t).size 0 fs && fs.all fun f => R.contains f.1
 | _ => false
def old (w : World) : Zu := fun b _ => b < w.heap.size
theorem Zmo {α : Type} {p : Nat → α → Prop} : ∀ n, (∀ i, i < n → ∃ x, p i x) → ∃ l : List α, l.length = n ∧ ∀ i x, l[i]? = some x → p i x
 | 0, _ => ⟨[], rfl, fun i x h => by simp at h⟩
 | n + 1, h => by
  obtain ⟨l, hl, hp⟩ := Zmo n fun i hi => h i (by omega)
  obtain ⟨x, hx⟩ := h n (by omega)
  refine ⟨l ++ [x], by simp [hl], fun i y hy => ?_⟩
  rcases Nat.lt_or_ge i n with hi | hi
  ·rw [List.getElem?_append_left (by omega)] at hy; exact hp i y hy
  ·rw [List.getElem?_append_right (by omega)] at hy
   have : i = n := by
    rcases Nat.lt_or_ge (i - l.length) 1 with h1 | h1
    ·omega
    ·rw [List.getElem?_eq_none (by simpa using h1)] at hy; cases hy
   subst this
   rw [hl] at hy
   simp at hy; subst hy; exact hx
theorem ZbF.append {w : World} {St : Zu} {a b : List E} {u v : List Value} (h : ZbF w St a u) (k : ZbF w St b v) : ZbF w St (a ++ b) (u ++ v) := by
 refine ⟨by simp [h.1, k.1], fun i e he => ?_⟩
 rcases Nat.lt_or_ge i a.length with hi | hi
 ·rw [List.getElem?_append_left hi] at he
  rw [List.getElem?_append_left (by rw [← h.1]; exact hi)]
  exact h.2 i e he
 ·rw [List.getElem?_append_right hi] at he
  rw [List.getElem?_append_right (by rw [← h.1]; exact hi), ← h.1]
  exact k.2 _ e he
mutual
def Zff {H : Type} : DataW H → Nat
 | .lit (.string bytes) => bytes.length + 1
 | .lit _ => 1
 | .nil => 1
 | .ptr d => Zff d + 1
 | .slice elems spare => bulks elems + bulks spare + 1
 | .agg parts => bulks parts + 1
 | .iface _ d => Zff d + 1
 | .map entries => Zox entries + 1
 | .held _ => 1
def bulks {H : Type} : List (DataW H) → Nat
 | [] => 0
 | d :: r => Zff d + bulks r
def Zox {H : Type} : List (Lit × DataW H) → Nat
 | [] => 0
 | x :: r => ZqA x + Zox r
def ZqA {H : Type} : Lit × DataW H → Nat
 | (.string bytes, d) => bytes.length + Zff d + 1
 | (_, d) => Zff d + 1
end
mutual
def ZjQ : E → Nat
 | .v (.string s) => s.size + 1
 | .v _ => 1
 | .sl rows => Zhh rows + 1
 | .nils => 1
 | .ifc _ => 1
 | _ => 1
def Za0 : List E → Nat
 | [] => 0
 | e :: es => ZjQ e + Za0 es
def Zhh : List (List E) → Nat
 | [] => 0
 | r :: rs => Za0 r + Zhh rs
end
theorem Zem : ∀ a b : List E, Za0 (a ++ b) = Za0 a + Za0 b
 | [], b => by simp [Za0]
 | x :: a, b => by rw [List.cons_append, Za0, Za0, Zem a b]; omega
def Zjm (m : Nat → Nat) : Nat → Nat
 | 0 => 0
 | n + 1 => m 0 + Zjm (fun i => m (i + 1)) n
theorem Zjw : ∀ (rows : List (List E)) (m : Nat → Nat), (∀ (i : Nat) (row : List E), rows[i]? = some row → Za0 row ≤ m i) → Zhh rows ≤ Zjm m rows.length
 | [], m, _ => by simp [Zhh]
 | r :: rs, m, h => by
  rw [Zhh, List.length_cons, Zjm]
  exact Nat.add_le_add (h 0 r rfl) (Zjw rs _ fun i row hi => h (i + 1) row hi)
def mX {H β : Type} (xs : List (DataW H × β)) (i : Nat) : Nat := match xs[i]? with | some y => Zff y.1 | none => 0
theorem Zie {H β : Type} : ∀ xs : List (DataW H × β), Zjm (mX xs) xs.length = bulks (xs.map (·.1))
 | [] => by simp [Zjm, bulks]
 | x :: xs => by
  rw [List.length_cons, Zjm, List.map_cons, bulks, ← Zie xs]
  rfl
theorem ZoD {H β : Type} {xs : List (DataW H × β)} {i : Nat} {y : DataW H × β} (h : xs[i]? = some y) : mX xs i = Zff y.1 := by unfold mX; rw [h]
theorem ZjV {w : World} {St : Zu} {L : Tab} {cs : List Value} : ∀ (fs : List (Nat × Nat)) (off : Nat) (m : Nat → Nat), Zld L cs.length off fs = true →
  (∀ (i ft o : Nat), fs[i]? = some (ft, o) → ∃ es, Sh L ft es ∧ ZbF w St es ((cs.drop o).take (L.ti ft).size) ∧ Za0 es ≤ m i) →
  ∃ parts : List (List E), parts.length = fs.length ∧ (∀ (i ft o : Nat) (part : List E), fs[i]? = some (ft, o) → parts[i]? = some part → Sh L ft part) ∧ ZbF w St parts.flatten (cs.drop off) ∧ Za0 parts.flatten ≤ Zjm m fs.length
 | [], off, m, hl, _ => by
  simp only [Zld, beq_iff_eq] at hl
  exact ⟨[], rfl, fun i ft o part h => by simp at h, by subst hl; simp [ZbF], by simp [Za0]⟩
 | (t, o) :: fs, off, m, hl, h => by
  simp only [Zld, Bool.and_eq_true, beq_iff_eq] at hl
  obtain ⟨rfl, hl⟩ := hl
  obtain ⟨es, he, hr, hb⟩ := h 0 t o rfl
  obtain ⟨parts, h1, h2, h3, h4⟩ := ZjV fs _ (fun i => m (i + 1)) hl fun i ft o' hi => h (i + 1) ft o' hi
  refine ⟨es :: parts, by simp [h1], fun i ft o' part hi hp => ?_, ?_, by rw [List.flatten_cons, Zem, List.length_cons, Zjm]; omega⟩
  ·cases i with
   | zero => simp only [List.getElem?_cons_zero, Option.some.injEq, Prod.mk.injEq] at hi hp; obtain ⟨rfl, rfl⟩ := hi; subst hp; exact he
   | succ i => exact h2 i ft o' part hi hp
  ·have := hr.append h3
   rw [List.flatten_cons]
   rwa [show List.drop (o + (L.ti t).size) cs = List.drop (L.ti t).size (List.drop o cs) by rw [List.drop_drop], List.take_append_drop] at this
theorem Zk1 {w : World} {St : Zu} {L : Tab} {e sz : Nat} : ∀ (n : Nat) (cs : List Value) (m : Nat → Nat), cs.length = n * sz →
  (∀ i, i < n → ∃ es, Sh L e es ∧ ZbF w St es ((cs.drop (i * sz)).take sz) ∧ Za0 es ≤ m i) →
  ∃ parts : List (List E), parts.length = n ∧ (∀ (i : Nat) (part : List E), parts[i]? = some part → Sh L e part) ∧ ZbF w St parts.flatten cs ∧ Za0 parts.flatten ≤ Zjm m n
 | 0, cs, m, hl, _ => ⟨[], rfl, fun i part h => by simp at h, by
   have : cs = [] := List.eq_nil_of_length_eq_zero (by simpa using hl)
   subst this; simp [ZbF], by simp [Za0]⟩
 | n + 1, cs, m, hl, h => by
  obtain ⟨es, he, hr, hb⟩ := h 0 (by omega)
  obtain ⟨parts, h1, h2, h3, h4⟩ := Zk1 n (cs.drop sz) (fun i => m (i + 1)) (by rw [List.length_drop, hl, Nat.succ_mul, Nat.add_sub_cancel]) fun i hi => by
   obtain ⟨es, he, hr, hb⟩ := h (i + 1) (by omega)
   refine ⟨es, he, ?_, hb⟩
   rwa [List.drop_drop, show sz + i * sz = (i + 1) * sz by rw [Nat.succ_mul]; omega]
  refine ⟨es :: parts, by simp [h1], fun i part hp => ?_, ?_, by rw [List.flatten_cons, Zem, Zjm]; omega⟩
  ·cases i with
   | zero => simp only [List.getElem?_cons_zero, Option.some.injEq] at hp; subst hp; exact he
   | succ i => exact h2 i part hp
  ·have := hr.append h3
   rw [List.flatten_cons]
   simpa [Nat.zero_mul] using this
section
variable {H : Type} {enc : TypeId × Value → H} {P : Program} [Gl P] {w : World} {L : Tab} (hL : TOk P L) {R : List Nat} (hR : simpleIn L R = true)
theorem Ty.cells {t : Nat} {d : TypeDesc} {ti : TypeInfo} {i : TI} (h : Ty P i t d ti) : P.cellsOf t = i.size := by
 simp [Program.cellsOf, h.info, h.size]
include hL hR in
theorem ZdL {t : Nat} (ht : R.contains t = true) : ∃ d ti, Ty P (L.ti t) t d ti := by
 refine hL.ty (.inl ?_)
 have := List.all_eq_true.1 hR t (by simpa using ht)
 unfold TI.known
 split at this <;> simp_all
include hL hR in
theorem Zml {spare : Nat → Bool} {held : Bool} : ∀ (fuel t : Nat) (cs : List Value) (x : DataW H × List MemPlace), R.contains t = true → DataW.trod enc P w 0 spare held fuel t cs = some x →
  ∃ es, Sh L t es ∧ ZbF w (old w) es cs ∧ Za0 es ≤ Zff x.1 := by
 intro fuel
 induction fuel with
 | zero => intro t cs x _ h; simp [DataW.trod] at h
 | succ fuel ih =>
  intro t cs x ht h
  obtain ⟨d, ti, hty⟩ := ZdL hL hR ht
  have hs := List.all_eq_true.1 hR t (by simpa using ht)
  have one : ∀ (e : E) (v : Value), Zae w (old w) e v → ZbF w (old w) [e] [v] := fun e v hr => ⟨rfl, fun k e' hk => by
   cases k with
   | zero => simp only [List.getElem?_cons_zero, Option.some.injEq] at hk; subst hk; exact ⟨v, rfl, hr⟩
   | succ k => simp at hk⟩
  have hk := hty.k
  have hu := hty.und
  unfold DataW.trod at h
  cases hd : d with
  | bool =>
   subst hd
   rw [hu] at h
   match cs, h with
   | [.bool b], h =>
    simp only [Option.some.injEq] at h; subst h
    exact ⟨_, .bool t b hk, one _ _ (.v _ rfl), by simp [Za0, ZjQ, Zff]⟩
  | int k =>
   subst hd
   rw [hu] at h
   match cs, h with
   | [.int k' n], h =>
    simp only at h
    split at h
    ·rename_i hc; obtain ⟨rfl, hc⟩ := hc; simp only [Option.some.injEq] at h; subst h; exact ⟨_, .int t _ _ hk (by simpa [Lit.wf] using hc), one _ _ (.v _ rfl), by simp [Za0, ZjQ, Zff]⟩
    ·cases h
  | string =>
   subst hd
   rw [hu] at h
   match cs, h with
   | [.string s], h =>
    simp only at h
    split at h
    ·rename_i hc; simp only [Option.some.injEq] at h; subst h; exact ⟨_, .string t _ hk hc, one _ _ (.v _ rfl), by simp [Za0, ZjQ, Zff]⟩
    ·cases h
  | slice e =>
   subst hd
   rw [hu] at h
   rw [hk] at hs
   simp only [ZbZ, Bool.and_eq_true, bne_iff_ne, ne_eq] at hs
   obtain ⟨he, hsz⟩ := hs
   obtain ⟨de, tie, hte⟩ := ZdL hL hR he
   match cs, h with
   | [.slice none 0 0], h =>
    simp only [Option.some.injEq] at h; subst h
    exact ⟨_, .slice t e [] hk (by simp) (fun i row hi => by simp at hi), one _ _ (.sl [] none 0 0 0 0 0 (fun _ _ => undef) rfl (by omega) (by simp) (fun h0 => by omega) (fun i row hi => by simp at hi) (fun i k row e hi => by simp at hi) (fun i k row e hi => by simp at hi)), by simp [Za0, ZjQ, Zhh, Zff]⟩
   | [.slice (some a) len cap], h =>
    simp only at h
    split at h
    case isFalse => cases h
    rename_i hc
    obtain ⟨_, hlc, hcm⟩ := hc
    simp only [Option.bind_eq_some_iff] at h
    obtain ⟨elems, helems, hrest⟩ := h
    simp only [Option.map_eq_some_iff] at hrest
    obtain ⟨rest, _, hx⟩ := hrest
    have hget := mapM_some_get helems
    have hlen := mapM_some_length helems
    simp only [List.length_range] at hlen
    have row_of : ∀ i, i < len → ∃ row : List E, Sh L e row ∧ Za0 row ≤ mX elems i ∧ ∃ vs : List Value, w.cells? 0 (a.add (i * P.cellsOf e)) (P.cellsOf e) = some vs ∧ ZbF w (old w) row vs := fun i hi => by
     have h1 := hget i i (by rw [List.getElem?_range hi])
     rw [List.getElem?_eq_getElem (by omega : i < elems.length)] at h1
     simp only [Option.bind_eq_some_iff] at h1
     obtain ⟨vs, h2, h3⟩ := h1
     obtain ⟨row, h4, h5, h6⟩ := ih e vs _ he h3
     exact ⟨row, h4, by rw [ZoD (List.getElem?_eq_getElem (by omega : i < elems.length))]; exact h6, vs, h2, h5⟩
    obtain ⟨rows, hrl, hrows⟩ := Zmo len row_of
    have hcell : ∀ (i k : Nat) (row : List E) (x : E), rows[i]? = some row → row[k]? = some x → ∃ u, w.cell? ((a.add (i * P.cellsOf e)).add k) = some u ∧ Zae w (old w) x u := fun i k row x hi hx => by
     obtain ⟨_, _, vs, h1, h2⟩ := hrows i row hi
     obtain ⟨u, hu1, hu2⟩ := h2.2 k x hx
     unfold World.cells? at h1
     rw [if_pos (Nat.zero_le _)] at h1
     have hkl : k < P.cellsOf e := by
      have := mapM_some_length h1
      rw [List.length_range] at this
      rw [← this]
      exact (List.getElem?_eq_some_iff.1 hu1).1
     have h3 := mapM_some_get h1 k k (by rw [List.getElem?_range hkl])
     exact ⟨u, h3.trans hu1, hu2⟩
    have hrow : ∀ (i : Nat) (row : List E), rows[i]? = some row → row.length = (L.ti e).size := fun i row hi => by
     obtain ⟨_, _, vs, h1, h2⟩ := hrows i row hi
     unfold World.cells? at h1
     rw [if_pos (Nat.zero_le _)] at h1
     have := mapM_some_length h1
     rw [List.length_range] at this
     rw [h2.1, this, hte.cells]
    have hspot : 0 < len → a.spot = none := fun h0 => by
     obtain ⟨row, hr0⟩ : ∃ row, rows[0]? = some row := ⟨_, List.getElem?_eq_getElem (by omega)⟩
     have h1 := hrow 0 row hr0
     obtain ⟨x, hx⟩ : ∃ x, row[0]? = some x := ⟨_, List.getElem?_eq_getElem (by omega)⟩
     obtain ⟨u, h2, _⟩ := hcell 0 0 row x hr0 hx
     simp only [Nat.zero_mul, Addr.add, if_true] at h2
     unfold World.cell? at h2
     split at h2
     ·split at h2
      ·cases h2
      ·rename_i hn; simpa using hn
     ·cases h2
    have hadd : ∀ i k, 0 < len → (a.add (i * P.cellsOf e)).add k = ⟨a.block, a.off + i * (L.ti e).size + k, none⟩ := fun i k h0 => by
     have ha : a = ⟨a.block, a.off, none⟩ := by have := hspot h0; cases a; simp_all
     rw [ha, Zbk, Zbk, hte.cells]
    refine ⟨_, .slice t e rows hk (by omega) (fun i row hi => (hrows i row hi).1), one _ _ (.sl rows (some a) len cap (L.ti e).size a.block a.off (fun i k => (w.cell? ⟨a.block, a.off + i * (L.ti e).size + k, none⟩).getD undef) hrl hlc hcm
     (fun h0 => by have := hspot h0; cases a; simp_all) hrow (fun i k row x hi hx => ?_) (fun i k row x hi hx => ?_)), ?_⟩
    rotate_right
    ·have h1 := Zjw rows (mX elems) fun i row hi => (hrows i row hi).2.1
     rw [hrl, show len = elems.length by omega, Zie] at h1
     subst hx
     simp only [Za0, ZjQ, Zff]; omega
    ·have h0 : 0 < len := by rw [← hrl]; exact Nat.lt_of_le_of_lt (Nat.zero_le i) (List.getElem?_eq_some_iff.1 hi).1
     obtain ⟨u, h1, h2⟩ := hcell i k row x hi hx
     rw [hadd i k h0] at h1
     refine ⟨World.block_lt_of_cell? w ⟨a.block, a.off + i * (L.ti e).size + k, none⟩ h1, by rw [h1]; rfl⟩
    ·have h0 : 0 < len := by rw [← hrl]; exact Nat.lt_of_le_of_lt (Nat.zero_le i) (List.getElem?_eq_some_iff.1 hi).1
     obtain ⟨u, h1, h2⟩ := hcell i k row x hi hx
     rw [hadd i k h0] at h1
     rw [h1]; exact h2
  | struct fs =>
   subst hd
   rw [hu] at h
   rw [hk] at hs
   simp only [ZbZ, Bool.and_eq_true] at hs
   obtain ⟨hlaid, hin⟩ := hs
   simp only at h
   split at h
   case isFalse => cases h
   rename_i hlen
   simp only [Option.map_eq_some_iff] at h
   obtain ⟨xs, hxs, hx⟩ := h
   have hget := mapM_some_get hxs
   have hlx := mapM_some_length hxs
   obtain ⟨parts, h1, h2, h3, h6⟩ := ZjV (w := w) (St := old w) (L := L) (cs := cs) (fs.toList.map fun f => (f.type, f.offset)) 0 (mX xs) (by rw [hlen, hty.cells]; exact hlaid) fun i ft o hi => by
    rw [List.getElem?_map] at hi
    cases hf : fs.toList[i]? with
    | none => rw [hf] at hi; cases hi
    | some f =>
     rw [hf] at hi
     simp only [Option.map_some, Option.some.injEq, Prod.mk.injEq] at hi
     obtain ⟨rfl, rfl⟩ := hi
     have h1 := hget i f hf
     have hc : R.contains f.type = true := by
      refine List.all_eq_true.1 hin (f.type, f.offset) (List.mem_map.2 ⟨f, List.mem_of_getElem? hf, rfl⟩)
     obtain ⟨df, tif, htf⟩ := ZdL hL hR hc
     cases hx : xs[i]? with
     | none =>
      have := mapM_some_length hxs
      have := (List.getElem?_eq_some_iff.1 hf).1
      have := List.getElem?_eq_none_iff.1 hx
      omega
     | some y =>
      rw [hx] at h1
      obtain ⟨es, h4, h5, h6⟩ := ih f.type _ y hc h1
      exact ⟨es, h4, by rwa [htf.cells] at h5, by rw [ZoD hx]; exact h6⟩
   rw [List.length_map, ← hlx, Zie] at h6
   subst hx
   exact ⟨_, .struct t _ parts hk h1 h2, by simpa using h3, by simp only [Zff]; omega⟩
  | array n e =>
   subst hd
   rw [hu] at h
   rw [hk] at hs
   simp only [ZbZ, Bool.and_eq_true, beq_iff_eq] at hs
   obtain ⟨hin, hsz⟩ := hs
   obtain ⟨de, tie, hte⟩ := ZdL hL hR hin
   simp only at h
   split at h
   case isFalse => cases h
   rename_i hlen
   simp only [Option.map_eq_some_iff] at h
   obtain ⟨xs, hxs, hx⟩ := h
   have hget := mapM_some_get hxs
   have hlx := mapM_some_length hxs
   rw [List.length_range] at hlx
   obtain ⟨parts, h1, h2, h3, h6⟩ := Zk1 (w := w) (St := old w) (L := L) (e := e) (sz := (L.ti e).size) n cs (mX xs) (by rw [hlen, hty.cells]; exact hsz.symm) fun i hi => by
    have h1 := hget i i (by rw [List.getElem?_range hi])
    rw [List.getElem?_eq_getElem (by omega : i < xs.length), hte.cells] at h1
    rw [ZoD (List.getElem?_eq_getElem (by omega : i < xs.length))]
    exact ih e _ _ hin h1
   rw [← hlx, Zie] at h6
   subst hx
   exact ⟨_, .array t n e parts hk h1 h2, h3, by simp only [Zff]; omega⟩
  | _ => subst hd; rw [hk] at hs; simp [ZbZ] at hs
include hL hR in
theorem arg_c {base : Nat} {ρ : Nat → Nat} {spare : Nat → Bool} {held : Bool} {t : Nat} {v : Value} {d : DataW H} {ps : List MemPlace} (ht : R.contains t = true) (hagg : (L.ti t).isAgg = false) (hok : Value.okWide P w .any base t v)
  (h : DataW.Trod enc P w 0 spare held t v d ps) : ∃ e, Sh L t [e] ∧ ZaE w (old w) ρ (.c none e) v ∧ Za0 [e] ≤ Zff d := by
 obtain ⟨fuel, h⟩ := h
 obtain ⟨es, h1, h2, hb⟩ := Zml hL hR fuel t _ _ ht h
 obtain ⟨d', ti, hty⟩ := ZdL hL hR ht
 have hv : v.cells = #[v] := by
  have hk := hty.k
  unfold Value.okWide at hok
  rw [hty.und] at hok
  cases v with
  | agg cs =>
   unfold TI.isAgg at hagg
   rw [hk] at hagg
   cases d' <;> simp_all [ZbZ, Cell.okWide, Cell.ok]
  | _ => rfl
 rw [hv] at h2
 match es, h1, h2, hb with
 | [e], h1, h2, hb =>
  obtain ⟨u, hu, hr⟩ := h2.2 0 e rfl
  simp only [List.getElem?_cons_zero, Option.some.injEq] at hu
  subst hu
  exact ⟨e, h1, .e _ _ hr, hb⟩
 | [], _, h2, _ => exact absurd h2.1 (by simp)
 | _ :: _ :: _, _, h2, _ => exact absurd h2.1 (by simp)
include hL hR in
theorem arg_agg {base : Nat} {ρ : Nat → Nat} {spare : Nat → Bool} {held : Bool} {t : Nat} {v : Value} {d : DataW H} {ps : List MemPlace} (ht : R.contains t = true) (hagg : (L.ti t).isAgg = true) (hok : Value.okWide P w .any base t v)
  (h : DataW.Trod enc P w 0 spare held t v d ps) : ∃ es, Sh L t es ∧ ZaE w (old w) ρ (.agg es) v ∧ Za0 es ≤ Zff d := by
 obtain ⟨fuel, h⟩ := h
 obtain ⟨es, h1, h2, hb⟩ := Zml hL hR fuel t _ _ ht h
 obtain ⟨d', ti, hty⟩ := ZdL hL hR ht
 obtain ⟨cs, rfl⟩ : ∃ cs, v = .agg cs := by
  have hk := hty.k
  unfold Value.okWide at hok
  rw [hty.und] at hok
  unfold TI.isAgg at hagg
  rw [hk] at hagg
  cases d' <;> simp_all [ZbZ]
  ·obtain ⟨cs, rfl, _⟩ := hok; exact ⟨cs, rfl⟩
  ·obtain ⟨cs, rfl, _⟩ := hok; exact ⟨cs, rfl⟩
 exact ⟨es, h1, ⟨cs.toList, by simp, .of h2⟩, hb⟩
def D.tokless : D → Bool
 | .c (some _) _ => false
 | _ => true
theorem Zne {ρ : Nat → Nat} {args : List D} {ZT : Array Value} (hn : args.all D.tokless = true) (hr : ∀ i, ZaE w (old w) ρ ((⟨ZaT 0 args, []⟩ : AS).get i) (ZT.getD i undef)) (hG : Zfi P w (old w)) :
  Zn P w (fun _ => False) (old w) ⟨ZaT 0 args, []⟩ ZT w (old w) ρ := by
 have look_at : ∀ (l : List D) (j i : Nat) (d : D), look (ZaT j l) i = some d → d ∈ l := by
  intro l
  induction l with
  | nil => intro j i d h; simp [ZaT, look] at h
  | cons a l ih =>
   intro j i d h
   simp only [ZaT, look] at h
   split at h
   ·simp only [Option.some.injEq] at h; subst h; simp
   ·exact List.mem_cons_of_mem _ (ih _ _ _ h)
 have hno : ∀ {t k : Nat} {e : E} {v : Value}, ¬ ZM (⟨ZaT 0 args, []⟩ : AS) ZT w ρ t k e v := by
  rintro t k e v (⟨i, hi, _⟩ | ⟨n, cs, j, hb, _⟩)
  ·simp only [AS.get] at hi
   cases hl : look (ZaT 0 args) i with
   | none => rw [hl] at hi; cases hi
   | some d =>
    rw [hl] at hi
    simp only [Option.getD_some] at hi
    subst hi
    have := List.all_eq_true.1 hn _ (look_at _ _ _ _ hl)
    simp [D.tokless] at this
  ·simp [AS.box, look] at hb
 exact { glob := hG, os := rfl, tape := rfl, output := rfl, size := Nat.le_refl _, old := fun _ _ _ => rfl, stay := fun _ _ _ => rfl, up := fun _ _ h => h, dn := fun _ _ h _ => .inl h, lt := fun _ _ h => h
         tmp := hr, nm := fun n cs hb => by simp [AS.box, look] at hb
         box := fun n cs hb => by simp [AS.box, look] at hb, inj := fun n m cs ds hb => by simp [AS.box, look] at hb
         own := fun t k e v hh => (hno hh).elim, apart := fun t k e v t' k' e' v' hh => (hno hh).elim, ownbox := fun t k e v n cs hh => (hno hh).elim }
theorem law_calls {f : FuncId} {args : List D} {ZT : Array Value} {ρ : Nat → Nat} (hn : args.all D.tokless = true) (hs : ZT.size = args.length) (hr : ∀ i, ZaE w (old w) ρ ((⟨ZaT 0 args, []⟩ : AS).get i) (ZT.getD i undef)) (hG : Zfi P w (old w))
  (h : CallsA P f args fun r => r = .c none (.v (.bool true))) : Calls P f ZT w fun e w' => e = .returned (.bool true) ∧ Below w.heap.size w w' := by
 refine (h.runs w (old w) (fun _ => False) ZT ρ hs (Zne hn hr hG)).mono ?_
 rintro e w' ⟨v, r, bx', St', ρ', rfl, rfl, _, hrel⟩
 have h0 := hrel.tmp 0
 have : v = .bool true := by
  have := Za2 (d := .c none (.v (.bool true))) (y := .bool true) h0 rfl
  exact this.1
 exact ⟨by rw [this], hrel.os, hrel.tape, hrel.output, hrel.size, fun k hk => hrel.old k hk (fun h => h)⟩
end
theorem get1 {α : Type} {l : List α} (h : l.length = 1) : ∃ a, l = [a] := by
 match l, h with | [a], _ => exact ⟨a, rfl⟩
theorem ZqK {α : Type} {l : List α} (h : l.length = 2) : ∃ a b, l = [a, b] := by
 match l, h with | [a, b], _ => exact ⟨a, b, rfl⟩
theorem get5 {α : Type} {l : List α} (h : l.length = 5) : ∃ a b c d e, l = [a, b, c, d, e] := by
 match l, h with | [a, b, c, d, e], _ => exact ⟨a, b, c, d, e, rfl⟩
theorem Zpr {L : Tab} {t : Nat} {es : List E} (h : Sh L t es) {k : IntKind} (hk : (L.ti t).k = .int k) : ∃ n, es = [.v (.int k n)] ∧ k.min ≤ n ∧ n ≤ k.max := by
 cases h with
 | int _ k' n h hn => rw [hk] at h; injection h with h; subst h; exact ⟨n, rfl, hn⟩
 | bool _ _ h => rw [hk] at h; cases h
 | string _ _ h => rw [hk] at h; cases h
 | slice _ _ _ h => rw [hk] at h; cases h
 | struct _ _ _ h => rw [hk] at h; cases h
 | array _ _ _ _ h => rw [hk] at h; cases h
theorem Zpc {L : Tab} {t : Nat} {es : List E} (h : Sh L t es) (hk : (L.ti t).k = .bool) : ∃ b, es = [.v (.bool b)] := by
 cases h with
 | bool _ b h => exact ⟨b, rfl⟩
 | int _ _ _ h => rw [hk] at h; cases h
 | string _ _ h => rw [hk] at h; cases h
 | slice _ _ _ h => rw [hk] at h; cases h
 | struct _ _ _ h => rw [hk] at h; cases h
 | array _ _ _ _ h => rw [hk] at h; cases h
theorem Zni {L : Tab} {t : Nat} {es : List E} (h : Sh L t es) (hk : (L.ti t).k = .string) : ∃ s : ByteArray, es = [.v (.string s)] ∧ s.size ≤ maxLen := by
 cases h with
 | string _ s h hs => exact ⟨s, rfl, hs⟩
 | bool _ _ h => rw [hk] at h; cases h
 | int _ _ _ h => rw [hk] at h; cases h
 | slice _ _ _ h => rw [hk] at h; cases h
 | struct _ _ _ h => rw [hk] at h; cases h
 | array _ _ _ _ h => rw [hk] at h; cases h
theorem Zn3 {L : Tab} {t e : Nat} {es : List E} (h : Sh L t es) (hk : (L.ti t).k = .slice e) : ∃ rows, es = [.sl rows] ∧ rows.length ≤ maxLen ∧ ∀ row ∈ rows, Sh L e row := by
 cases h with
 | slice _ e' rows h hl hr => rw [hk] at h; injection h with h; subst h; exact ⟨rows, rfl, hl, fun row hm => by obtain ⟨i, hi, rfl⟩ := List.mem_iff_getElem.1 hm; exact hr i _ (List.getElem?_eq_getElem hi)⟩
 | bool _ _ h => rw [hk] at h; cases h
 | int _ _ _ h => rw [hk] at h; cases h
 | string _ _ h => rw [hk] at h; cases h
 | struct _ _ _ h => rw [hk] at h; cases h
 | array _ _ _ _ h => rw [hk] at h; cases h
theorem ZjW {L : Tab} {t : Nat} {fs : List (Nat × Nat)} {es : List E} (h : Sh L t es) (hk : (L.ti t).k = .struct fs) :
  ∃ parts : List (List E), es = parts.flatten ∧ parts.length = fs.length ∧ ∀ (i ft off : Nat) (part : List E), fs[i]? = some (ft, off) → parts[i]? = some part → Sh L ft part := by
 cases h with
 | struct _ fs' parts h hl hf => rw [hk] at h; injection h with h; subst h; exact ⟨parts, rfl, hl, hf⟩
 | bool _ _ h => rw [hk] at h; cases h
 | int _ _ _ h => rw [hk] at h; cases h
 | string _ _ h => rw [hk] at h; cases h
 | slice _ _ _ h => rw [hk] at h; cases h
 | array _ _ _ _ h => rw [hk] at h; cases h
theorem ZoI {L : Tab} {t n e : Nat} {es : List E} (h : Sh L t es) (hk : (L.ti t).k = .array n e) :
  ∃ parts : List (List E), es = parts.flatten ∧ parts.length = n ∧ ∀ (i : Nat) (part : List E), parts[i]? = some part → Sh L e part := by
 cases h with
 | array _ n' e' parts h hl hf => rw [hk] at h; injection h with h1 h2; subst h1 h2; exact ⟨parts, rfl, hl, hf⟩
 | bool _ _ h => rw [hk] at h; cases h
 | int _ _ _ h => rw [hk] at h; cases h
 | string _ _ h => rw [hk] at h; cases h
 | slice _ _ _ h => rw [hk] at h; cases h
 | struct _ _ _ h => rw [hk] at h; cases h
theorem get3 {α : Type} {l : List α} (h : l.length = 3) : ∃ a b c, l = [a, b, c] := by
 match l, h with | [a, b, c], _ => exact ⟨a, b, c, rfl⟩
theorem get4 {α : Type} {l : List α} (h : l.length = 4) : ∃ a b c d, l = [a, b, c, d] := by
 match l, h with | [a, b, c, d], _ => exact ⟨a, b, c, d, rfl⟩
theorem ZkW {α : Type} {f : α → List E} : ∀ rows : List (List E), (∀ row ∈ rows, ∃ x, row = f x) → ∃ l : List α, rows = l.map f
 | [], _ => ⟨[], rfl⟩
 | r :: rs, h => by
  obtain ⟨x, rfl⟩ := h r (by simp)
  obtain ⟨l, rfl⟩ := ZkW rs fun row hm => h row (by simp [hm])
  exact ⟨x :: l, rfl⟩

end Go.Am
