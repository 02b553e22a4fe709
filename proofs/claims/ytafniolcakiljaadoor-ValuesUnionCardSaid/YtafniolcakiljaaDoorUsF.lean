/- Part 6 of the proof: the abstract machine and its soundness. It holds for every input, without conditions. -/
import Derived.Test.YtafniolcakiljaaDoorUsA
import Derived.Test.YtafniolcakiljaaDoorUsB
import Derived.Test.YtafniolcakiljaaDoorUsC
import Derived.Test.YtafniolcakiljaaDoorUsD
import Derived.Test.YtafniolcakiljaaDoorUsE
set_option linter.unusedVariables false
namespace Go.Am
open Go.RowKit
theorem CallsA.of_calls {P : Program} [Gl P] {f : FuncId} {args : List D} {K : D → Prop} (hc : Zip P f)
  (h : ∀ (w : World) (St : Zu) (ρ : Nat → Nat) (ZT : Array Value), ZT.size = args.length → (∀ i, ZaE w St ρ ((⟨ZaT 0 args, []⟩ : AS).get i) (ZT.getD i undef)) → (∀ b o, St b o → b < w.heap.size) → Zfi P w St →
   Calls P f ZT w fun e w' => ∃ x, e = .returned x ∧ x.oneCell' = true ∧ K (.c none (.v x)) ∧ Below w.heap.size w w') : CallsA P f args K := by
 refine ⟨hc, fun w S0 M0 ZT ρ hv hr => ?_⟩
 refine (h w S0 ρ ZT hv (fun i => hr.tmp i) hr.lt hr.glob).mono ?_
 rintro e w' ⟨x, rfl, ho, hk, bel⟩
 have hno : ∀ {t k : Nat} {e : E} {v : Value}, ¬ ZM (⟨[(0, .c none (.v x))], []⟩ : AS) #[x] w' ρ t k e v := by
  rintro t k e v (⟨i, hi, _⟩ | ⟨n, cs, j, hb, _⟩)
  ·simp only [AS.get, look] at hi
   split at hi <;> simp at hi
  ·simp [AS.box, look] at hb
 refine ⟨x, .c none (.v x), [], S0, ρ, rfl, hk, fun _ _ _ => ⟨rfl, rfl⟩, ?_⟩
 exact { glob := hr.glob, os := bel.os, tape := bel.tape, output := bel.output, size := bel.size, old := fun b hb _ => bel.block b hb
         stay := fun b o hs => bel.cell (p := ⟨b, o, none⟩) (hr.lt b o hs), up := fun _ _ h => h, dn := fun _ _ h _ => .inl h, lt := fun b o hs => Nat.lt_of_lt_of_le (hr.lt b o hs) bel.size
         tmp := fun i => by
           simp only [AS.get, look]
           split
           · rename_i h0; subst h0; exact .e _ _ (.v x ho)
           · exact trivial
         nm := fun n cs hb => by simp [AS.box, look] at hb
         box := fun n cs hb => by simp [AS.box, look] at hb, inj := fun n m cs ds hb => by simp [AS.box, look] at hb
         own := fun t k e v hh => (hno hh).elim, apart := fun t k e v t' k' e' v' hh => (hno hh).elim, ownbox := fun t k e v n cs hh => (hno hh).elim }
def D.bare : D → Bool
 | .c (some _) _ => false
 | .ptr _ _ => false
 | .ept _ _ _ _ => false
 | _ => true
theorem CallsA.of_callsD {P : Program} [Gl P] {f : FuncId} {args : List D} {K : D → Prop} (hc : Zip P f)
  (h : ∀ (w : World) (St : Zu) (ρ : Nat → Nat) (ZT : Array Value), ZT.size = args.length → (∀ i, ZaE w St ρ ((⟨ZaT 0 args, []⟩ : AS).get i) (ZT.getD i undef)) → (∀ b o, St b o → b < w.heap.size) → Zfi P w St →
   Calls P f ZT w fun e w' => ∃ x r, e = .returned x ∧ ZaE w' (fun b o => St b o ∨ (w.heap.size ≤ b ∧ b < w'.heap.size)) ρ r x ∧ r.bare = true ∧ K r ∧ Below w.heap.size w w') : CallsA P f args K := by
 refine ⟨hc, fun w S0 M0 ZT ρ hv hr => ?_⟩
 refine (h w S0 ρ ZT hv (fun i => hr.tmp i) hr.lt hr.glob).mono ?_
 rintro e w' ⟨x, r, rfl, hrep, hb, hk, bel⟩
 have hno : ∀ {t k : Nat} {e : E} {v : Value}, ¬ ZM (⟨[(0, r)], []⟩ : AS) #[x] w' ρ t k e v := by
  rintro t k e v (⟨i, hi, _⟩ | ⟨n, cs, j, hb, _⟩)
  ·simp only [AS.get, look] at hi
   split at hi
   ·simp only [Option.getD_some] at hi; subst hi; cases hb
   ·simp at hi
  ·simp [AS.box, look] at hb
 refine ⟨x, r, [], (fun b o => S0 b o ∨ (w.heap.size ≤ b ∧ b < w'.heap.size)), ρ, rfl, hk, fun _ _ _ => ⟨rfl, rfl⟩, ?_⟩
 exact { glob := hr.glob, os := bel.os, tape := bel.tape, output := bel.output, size := bel.size, old := fun b hb _ => bel.block b hb
         stay := fun b o hs => bel.cell (p := ⟨b, o, none⟩) (hr.lt b o hs), up := fun _ _ h => .inl h, dn := fun b o h hl => by rcases h with h | h; exact .inl h; omega
         lt := fun b o hs => by rcases hs with hs | hs; exact Nat.lt_of_lt_of_le (hr.lt b o hs) bel.size; exact hs.2
         tmp := fun i => by
           simp only [AS.get, look]
           split
           · rename_i h0; subst h0; exact hrep
           · exact trivial
         nm := fun n cs hb => by simp [AS.box, look] at hb
         box := fun n cs hb => by simp [AS.box, look] at hb, inj := fun n m cs ds hb => by simp [AS.box, look] at hb
         own := fun t k e v hh => (hno hh).elim, apart := fun t k e v t' k' e' v' hh => (hno hh).elim, ownbox := fun t k e v n cs hh => (hno hh).elim }
theorem Zll {w : World} {St : Zu} {xs : List ByteArray} {v : Value} (h : Zae w St (.sl (xs.map fun x => [.v (.string x)])) v) :
  ∃ A c, v = .slice A xs.length c ∧ xs.length ≤ c ∧ c ≤ maxLen ∧ (xs ≠ [] → ∃ b o, A = some ⟨b, o, none⟩ ∧ St b o ∧ ∀ (j : Nat) x, xs[j]? = some x → w.cell? ⟨b, o + j, none⟩ = some (.string x)) := by
 cases h with
 | sl _ A n c sz b o ZT hn hc hm hA hs hv hr =>
  rw [List.length_map] at hn
  subst hn
  refine ⟨A, c, rfl, hc, hm, fun hne => ⟨b, o, hA (List.length_pos_iff.2 hne), ?_, fun j x hj => ?_⟩⟩
  ·obtain ⟨x, hx⟩ : ∃ x, xs[0]? = some x := ⟨_, List.getElem?_eq_getElem (List.length_pos_iff.2 hne)⟩
   have := (hv 0 0 [.v (.string x)] (.v (.string x)) (by simp [hx]) rfl).1
   simpa using this
  ·have h1 : (xs.map fun x => [E.v (.string x)])[j]? = some [.v (.string x)] := by simp [hj]
   have hsz : sz = 1 := by have := hs j _ h1; simpa using this.symm
   subst hsz
   obtain ⟨_, h3⟩ := hv j 0 _ (.v (.string x)) h1 rfl
   have h4 := hr j 0 _ (.v (.string x)) h1 rfl
   have h5 : ZT j 0 = .string x := by generalize ZT j 0 = y at h4; cases h4; rfl
   rw [h5] at h3
   simpa using h3

end Go.Am
