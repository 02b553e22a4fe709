/- Part 9 of the proof: the abstract machine and its soundness. It holds for every input, without conditions. -/
import Derived.Shelf.GgSortFunc.InsertionK
import Derived.Test.YtafniolcakiljaaDoorUsA
import Derived.Test.YtafniolcakiljaaDoorUsB
import Derived.Test.YtafniolcakiljaaDoorUsC
import Derived.Test.YtafniolcakiljaaDoorUsD
import Derived.Test.YtafniolcakiljaaDoorUsE
import Derived.Test.YtafniolcakiljaaDoorUsF
import Derived.Test.YtafniolcakiljaaDoorUsG
import Derived.Test.YtafniolcakiljaaDoorUsH
set_option linter.unusedVariables false
set_option linter.unusedSimpArgs false
namespace Go.Am
open Go.RowKit
section
variable {P : Program} [Gl P] {nt : Nat} {w0 : World} {M0 : Nat → Prop} {S0 : Zu} {S : AS} {tm : Array Value} {w : World} {St : Zu} {ρ ρ0 : Nat → Nat} {a : Act}
theorem Zn.stays (h : Zn P w0 M0 S0 S tm w St ρ) {b : Nat} {Z : Nat → Prop} (hlt : b < w.heap.size) (hge : w0.heap.size ≤ b ∨ M0 b) (hbox : ∀ m cs, S.box m = some cs → 0 < ρ (CAP + m) → ρ m ≠ b)
  (hheld : ∀ t k e v, ZM S tm w ρ t k e v → v.ownBlock ≠ some b) : Zn P w0 M0 S0 S tm w (fun c o => St c o ∨ (c = b ∧ Z o)) ρ := by
 have hl : ZbI w w St (fun c o => St c o ∨ (c = b ∧ Z o)) := ⟨fun _ _ h => .inl h, fun _ _ _ => rfl⟩
 exact { glob := h.glob, os := h.os, tape := h.tape, output := h.output, size := h.size, old := h.old, stay := h.stay, up := fun c o hs => .inl (h.up c o hs)
         dn := fun c o hs hb => by
           rcases hs with hs | ⟨rfl, _⟩
           · exact h.dn c o hs hb
           · rcases hge with h1 | h1
             · omega
             · exact .inr h1
         lt := fun c o hs => by
           rcases hs with hs | ⟨rfl, _⟩
           · exact h.lt c o hs
           · exact hlt
         tmp := fun i => (h.tmp i).later hl, nm := h.nm
         box := fun m cs hm => by
           rcases h.box m cs hm with h1 | ⟨h0, h1, h2, h3⟩
           · exact .inl h1
           · refine .inr ⟨h0, h1, fun o hs => ?_, h3.later hl rfl⟩
             rcases hs with hs | ⟨hs, _⟩
             · exact h2 o hs
             · exact hbox m cs hm h0 hs
         inj := h.inj
         own := fun t k e v hh => by
           rcases h.own t k e v hh with h1 | ⟨g, cap, cur, rows, h1, h2, h3, h4, h5, h6, h7, h8⟩
           · exact .inl h1
           · refine .inr ⟨g, cap, cur, rows, h1, h2, h3, h4, h5, h6, h7, fun o hs => ?_⟩
             rcases hs with hs | ⟨hs, _⟩
             · exact h8 o hs
             · exact absurd (by rw [h2]; simp [Value.ownBlock, hs]) (hheld t k e v hh)
         apart := h.apart, ownbox := h.ownbox }
def AS.freeze (S : AS) (i n : Nat) (rows : List (List E)) : AS := (S.kill n).put i (.c none (.sl rows))
omit [Gl P] in
theorem ZmQ {n k : Nat} {rows : List (List E)} (h : Zbv P w St ρ n [(none, .ob (2 * k) rows)]) :
  ∃ cur : Array Value, w.heap[ρ n]? = some (.cells cur k (0, 0)) ∧ rows.length ≤ ρ (CAP + n) ∧ ρ (CAP + n) ≤ maxLen ∧ cur.size = ρ (CAP + n) * P.cellsOf k ∧
   (∀ (i : Nat) (row : List E), rows[i]? = some row → row.length = P.cellsOf k) ∧ ∀ (i j : Nat) (row : List E) (e : E), rows[i]? = some row → row[j]? = some e → ∃ u, cur[i * P.cellsOf k + j]? = some u ∧ Zae w St e u := by
 generalize hcs : ([(none, E.ob (2 * k) rows)] : List Cell) = cs at h
 cases h with
 | cells cs arr t h1 h2 h3 =>
  subst hcs
  obtain ⟨u, _, hu⟩ := h3 0 _ rfl
  cases hu with
  | e _ _ hu => cases hu
 | row k' rows' cur h1 h2 h3 h4 h5 h6 =>
  simp only [List.cons.injEq, Prod.mk.injEq, true_and, and_true, E.ob.injEq] at hcs
  obtain ⟨e1, e2⟩ := hcs
  obtain rfl : k = k' := by omega
  subst e2
  exact ⟨cur, h1, h2, h3, h4, h5, h6⟩
 | map t kt vt d rows' es clock l h0 hd h1 hp h2 h3 hst hk =>
  simp only [List.cons.injEq, Prod.mk.injEq, true_and, and_true, E.ob.injEq] at hcs
  omega
 | iter s pos h0 h1 =>
  simp only [List.cons.injEq, Prod.mk.injEq, true_and, and_true, E.ob.injEq] at hcs
  omega
theorem Zna (h : Zn P w0 M0 S0 S tm w St ρ) {n b c : Nat} (hn : n < CAP) {t k : Nat} {e : E} {v : Value} (hh : ZM (S.kill n) tm w (Za5 ρ n b c) t k e v) : ∃ e', ZM S tm w ρ t k e' v := by
 rcases hh with ⟨i, hi, hv⟩ | ⟨m, ds, j, hb', hj, hv⟩
 ·rw [Zdi] at hi
  cases hg : S.get i with
  | c tk e0 =>
   rw [hg] at hi
   cases tk with
   | none => simp [D.ren] at hi
   | some q =>
    obtain ⟨t1, k1⟩ := q
    simp only [D.ren, D.c.injEq, Option.some.injEq, Prod.mk.injEq] at hi
    obtain ⟨⟨rfl, rfl⟩, _⟩ := hi
    exact ⟨e0, .inl ⟨i, hg, hv⟩⟩
  | ptr m off => rw [hg] at hi; simp only [D.ren] at hi; cases hb : but n m <;> rw [hb] at hi <;> cases hi
  | ept m sz i off => rw [hg] at hi; simp only [D.ren] at hi; cases hb : but n m <;> rw [hb] at hi <;> cases hi
  | _ => rw [hg] at hi; simp [D.ren] at hi
 ·rw [Za7] at hb'
  split at hb'
  ·cases hb'
  ·rename_i hne
   obtain ⟨ds0, hds0, rfl⟩ := Option.map_eq_some_iff.1 hb'
   obtain ⟨e0, hj0, _⟩ := ZdM hj
   have hmc := h.nm m ds0 hds0
   rw [Zdz hne hmc] at hv
   exact ⟨e0, .inr ⟨m, ds0, j, hds0, hj0, hv⟩⟩
theorem ZU.freeze (h : ZU P nt w0 M0 S0 ρ0 S a w) {i n l k : Nat} {tk : Option (Nat × Nat)} {rows : List (List E)} (hi : i < nt) (hg : S.get i = .c tk (.rs n l)) (hb : S.box n = some [(none, .ob (2 * k) rows)]) (hl : l = rows.length) (hn : n < CAP) (hext : ZbX n = false) :
  ZU P nt w0 M0 S0 ρ0 (S.freeze i n rows) a w := by
 obtain ⟨h1, h2, St, ρ, h3, h4⟩ := h
 have hv := h3.tmp i
 rw [hg] at hv
 have hv : Zz w St ρ (.rs n l) (a.tmps.getD i undef) := hv
 have hbn : (S.kill n).box n = none := by rw [Za7]; simp
 rcases h3.box n _ hb with ⟨h5, k', h6⟩ | ⟨h5, h6, h7, h8⟩
 ·simp only [List.cons.injEq, Prod.mk.injEq, true_and, and_true, E.ob.injEq] at h6
  obtain rfl : rows = [] := h6.2
  have hl : l = 0 := by simpa using hl
  subst hl
  generalize hu : a.tmps.getD i undef = u at hv
  refine ⟨h1, h2, St, Za5 ρ n 0 0, ?_, Zdl h4 hext hn⟩
  refine (h3.kill hn 0 0).putSame (by rw [h2]; exact hi) ?_ (fun _ _ he => by cases he)
  rw [hu]
  cases hv with
  | e _ _ hv => cases hv
  | rs0 _ A h0 => exact .e _ _ (.sl [] A 0 0 0 0 0 (fun _ _ => undef) rfl (Nat.le_refl _) (Nat.zero_le _) (fun h => by omega) (fun i row hi => by simp at hi) (fun i j row e hi => by simp at hi) (fun i j row e hi => by simp at hi))
  | rs _ _ h0 => omega
 ·obtain ⟨cur, g1, g2, g3, g4, g5, g6⟩ := ZmQ h8
  have hblk : ρ n < w.heap.size := h8.blk
  refine ⟨h1, h2, (fun c o => St c o ∨ (c = ρ n ∧ True)), Za5 ρ n 0 0, ?_, Zdl h4 hext hn⟩
  have hk := h3.kill hn 0 0
  have hbox' : ∀ m cs, (S.kill n).box m = some cs → m ≠ n ∧ ∃ ds, S.box m = some ds := fun m cs hm => by
   rw [Za7] at hm
   by_cases e : m = n
   ·rw [if_pos e] at hm; cases hm
   ·rw [if_neg e] at hm
    cases hs : S.box m with
    | none => rw [hs] at hm; cases hm
    | some ds => exact ⟨e, ds, rfl⟩
  have h9 := hk.stays (b := ρ n) (Z := fun _ => True) hblk h6 (fun m cs hm hp => by
    obtain ⟨hne, ds, hds⟩ := hbox' m cs hm
    have hmc := h3.nm m ds hds
    rw [Zdz hne hmc]
    have hp' : 0 < ρ (CAP + m) := by
     have : Za5 ρ n 0 0 (CAP + m) = ρ (CAP + m) := ZdO hne hn
     rwa [this] at hp
    exact h3.inj m n ds _ hds hb hne hp' h5)
   (fun t k e v hh => by
    obtain ⟨e', hh'⟩ := Zna h3 hn hh
    exact h3.ownbox t k e' v n _ hh' hb h5)
  refine h9.putSame (by rw [h2]; exact hi) ?_ (fun _ _ he => by cases he)
  generalize hu : a.tmps.getD i undef = u at hv
  cases hv with
  | e _ _ hv => cases hv
  | rs0 _ A h0 => omega
  | rs _ _ h0 hl2 hm2 =>
   subst hl
   refine .e _ _ (.sl rows _ _ _ (P.cellsOf k) (ρ n) 0 (fun i j => cur.getD (i * P.cellsOf k + j) undef) rfl g2 g3 (fun _ => rfl) g5 (fun i j row e hi hj => ?_) (fun i j row e hi hj => ?_))
   ·obtain ⟨x, hx, _⟩ := g6 i j row e hi hj
    refine ⟨.inr ⟨rfl, trivial⟩, ?_⟩
    rw [Nat.zero_add]
    simp [World.cell?, g1, hx, Array.getD_eq_getD_getElem?]
   ·obtain ⟨x, hx, hr⟩ := g6 i j row e hi hj
    have : cur.getD (i * P.cellsOf k + j) undef = x := by simp [Array.getD_eq_getD_getElem?, hx]
    show Zae _ _ _ (cur.getD (i * P.cellsOf k + j) undef)
    rw [this]
    exact hr.later ⟨fun _ _ h => .inl h, fun _ _ _ => rfl⟩
end
section
variable {P : Program} [Gl P] {nt : Nat} {c : Code} {Q : Exit → AS → Prop} {S : AS}
theorem AWP.freeze (i n k : Nat) {l : Nat} {tk : Option (Nat × Nat)} {rows : List (List E)} (hg : S.get i = .c tk (.rs n l)) (hb : S.box n = some [(none, .ob (2 * k) rows)]) (hl : l = rows.length) (h : AWP P nt c Q (S.freeze i n rows)) (hok : (Nat.blt i nt && Nat.blt n CAP && !ZbX n) = true := by rfl) : AWP P nt c Q S := by
 simp only [Bool.and_eq_true, Nat.blt_eq, Bool.not_eq_true'] at hok
 exact h.conv fun w0 M0 S0 ρ0 a w hr => hr.freeze hok.1.1 hg hb hl hok.1.2 hok.2
theorem AWL.freeze (i n k : Nat) {l : Nat} {tk : Option (Nat × Nat)} {rows : List (List E)} (hg : S.get i = .c tk (.rs n l)) (hb : S.box n = some [(none, .ob (2 * k) rows)]) (hl : l = rows.length) (h : AWL P nt c Q (S.freeze i n rows)) (hok : (Nat.blt i nt && Nat.blt n CAP && !ZbX n) = true := by rfl) : AWL P nt c Q S := by
 simp only [Bool.and_eq_true, Nat.blt_eq, Bool.not_eq_true'] at hok
 exact h.conv fun w0 M0 S0 ρ0 a w hr => hr.freeze hok.1.1 hg hb hl hok.1.2 hok.2
end

open Go.RowKit Go.Sort
section
variable {P : Program} [Gl P] {w w' : World} {M0 : Nat → Prop} {S0 : Zu} {ρ : Nat → Nat} {k : Nat} {rows rows' : List (List E)} {tm : List (Nat × D)} {ZT : Array Value} {n : Nat}
theorem ZgZ (h : Zn P w M0 S0 ⟨tm, [(n, [(none, .ob (2 * k) rows)])]⟩ ZT w S0 ρ) : n < CAP ∧
  ((ρ (CAP + n) = 0 ∧ rows = []) ∨ (0 < ρ (CAP + n) ∧ M0 (ρ n) ∧ (∀ o, ¬ S0 (ρ n) o) ∧ ρ n < w.heap.size ∧
   ∃ cur : Array Value, w.heap[ρ n]? = some (.cells cur k (0, 0)) ∧ rows.length ≤ ρ (CAP + n) ∧ ρ (CAP + n) ≤ maxLen ∧ cur.size = ρ (CAP + n) * P.cellsOf k ∧
   (∀ (i : Nat) (row : List E), rows[i]? = some row → row.length = P.cellsOf k) ∧ ∀ (i j : Nat) (row : List E) (e : E), rows[i]? = some row → row[j]? = some e → ∃ u, cur[i * P.cellsOf k + j]? = some u ∧ Zae w S0 e u)) := by
 have hb : (⟨tm, [(n, [(none, .ob (2 * k) rows)])]⟩ : AS).box n = some [(none, .ob (2 * k) rows)] := by simp [AS.box, look]
 refine ⟨h.nm n _ hb, ?_⟩
 rcases h.box n _ hb with ⟨h5, k', h6⟩ | ⟨h5, h6, h7, h8⟩
 ·simp only [List.cons.injEq, Prod.mk.injEq, true_and, and_true, E.ob.injEq] at h6
  exact .inl ⟨h5, h6.2⟩
 ·have hlt := h8.blk
  refine .inr ⟨h5, ?_, h7, hlt, ZmQ h8⟩
  rcases h6 with h6 | h6
  ·omega
  ·exact h6
theorem ZdF {r : D} {v : Value} (hrt : ∀ tk e, r ≠ .c (some tk) e) {t k' : Nat} {e : E} {u : Value} : ¬ ZM (⟨[(0, r)], [(n, [(none, .ob (2 * k) rows')])]⟩ : AS) #[v] w' ρ t k' e u := by
 rintro (⟨i, hi, _⟩ | ⟨m, cs, j, hb, hj, _⟩)
 ·simp only [AS.get, look] at hi
  split at hi
  ·simp only [Option.getD_some] at hi; exact hrt _ _ hi
  ·simp at hi
 ·simp only [AS.box, look] at hb
  split at hb
  ·injection hb with hb; subst hb
   cases j <;> simp at hj
  ·cases hb
theorem Zn.rowAfter (h : Zn P w M0 S0 ⟨tm, [(n, [(none, .ob (2 * k) rows)])]⟩ ZT w S0 ρ) (hp : 0 < ρ (CAP + n)) (os : w'.os = w.os) (tape : w'.tape = w.tape) (output : w'.output = w.output) (size : w.heap.size ≤ w'.heap.size)
  (old : ∀ b, b < w.heap.size → b ≠ ρ n → w'.heap[b]? = w.heap[b]?) {cur' : Array Value} (row : w'.heap[ρ n]? = some (.cells cur' k (0, 0))) (hsz : cur'.size = ρ (CAP + n) * P.cellsOf k) (hlen : rows'.length ≤ ρ (CAP + n))
  (hrow : ∀ (i : Nat) (row : List E), rows'[i]? = some row → row.length = P.cellsOf k) (hcell : ∀ (i j : Nat) (row : List E) (e : E), rows'[i]? = some row → row[j]? = some e → ∃ u, cur'[i * P.cellsOf k + j]? = some u ∧ Zae w' S0 e u)
  {r : D} {v : Value} (hr : ZaE w' S0 ρ r v) (hrt : ∀ tk e, r ≠ .c (some tk) e) : Zn P w M0 S0 ⟨[(0, r)], [(n, [(none, .ob (2 * k) rows')])]⟩ #[v] w' S0 ρ := by
 obtain ⟨hn, h1 | ⟨_, hM, hS, hlt, cur, h2, h3, h4, h5⟩⟩ := ZgZ h
 ·omega
 have hcl : ∀ b o, S0 b o → w'.cell? ⟨b, o, none⟩ = w.cell? ⟨b, o, none⟩ := fun b o hs => by
  have hb : b ≠ ρ n := fun e => hS o (e ▸ hs)
  have := old b (h.lt b o hs) hb
  simp only [World.cell?, this]
 exact { glob := h.glob, os := os, tape := tape, output := output, size := size
         old := fun b hb hm => old b hb fun e => hm (e ▸ hM)
         stay := hcl, up := fun _ _ hs => hs, dn := fun _ _ hs _ => .inl hs, lt := fun b o hs => Nat.lt_of_lt_of_le (h.lt b o hs) size
         tmp := fun i => by
           simp only [AS.get, look]
           split
           · rename_i h0; subst h0; exact hr
           · exact trivial
         nm := fun m cs hm => by
           simp only [AS.box, look] at hm
           split at hm
           · rename_i h0; subst h0; exact hn
           · cases hm
         box := fun m cs hm => by
           simp only [AS.box, look] at hm
           split at hm
           · rename_i h0; subst h0; injection hm with hm; subst hm
             exact .inr ⟨hp, .inr hM, hS, .row k rows' cur' row hlen h4 hsz hrow hcell⟩
           · cases hm
         inj := fun m m' cs ds hm hm' hne => by
           simp only [AS.box, look] at hm hm'
           split at hm
           · split at hm'
             · rename_i e1 e2; exact absurd (e1.trans e2.symm) hne
             · cases hm'
           · cases hm
         own := fun t k' e u hh => (ZdF hrt hh).elim, apart := fun t k' e u t' k'' e' u' hh => (ZdF hrt hh).elim, ownbox := fun t k' e u m cs hh => (ZdF hrt hh).elim }
theorem Zn.rowNil (h : Zn P w M0 S0 ⟨tm, [(n, [(none, .ob (2 * k) rows)])]⟩ ZT w S0 ρ) (hp : ρ (CAP + n) = 0) (bel : Below w.heap.size w w') {r : D} {v : Value} (hr : ZaE w' S0 ρ r v) (hrt : ∀ tk e, r ≠ .c (some tk) e) :
  Zn P w M0 S0 ⟨[(0, r)], [(n, [(none, .ob (2 * k) [])])]⟩ #[v] w' S0 ρ := by
 obtain ⟨hn, _⟩ := ZgZ h
 exact { glob := h.glob, os := bel.os, tape := bel.tape, output := bel.output, size := bel.size, old := fun b hb _ => bel.block b hb
         stay := fun b o hs => bel.cell (p := ⟨b, o, none⟩) (h.lt b o hs), up := fun _ _ hs => hs, dn := fun _ _ hs _ => .inl hs, lt := fun b o hs => Nat.lt_of_lt_of_le (h.lt b o hs) bel.size
         tmp := fun i => by
           simp only [AS.get, look]
           split
           · rename_i h0; subst h0; exact hr
           · exact trivial
         nm := fun m cs hm => by
           simp only [AS.box, look] at hm
           split at hm
           · rename_i h0; subst h0; exact hn
           · cases hm
         box := fun m cs hm => by
           simp only [AS.box, look] at hm
           split at hm
           · rename_i h0; subst h0; injection hm with hm; subst hm
             exact .inl ⟨hp, k, rfl⟩
           · cases hm
         inj := fun m m' cs ds hm hm' hne => by
           simp only [AS.box, look] at hm hm'
           split at hm
           · split at hm'
             · rename_i e1 e2; exact absurd (e1.trans e2.symm) hne
             · cases hm'
           · cases hm
         own := fun t k' e u hh => (ZdF hrt hh).elim, apart := fun t k' e u t' k'' e' u' hh => (ZdF hrt hh).elim, ownbox := fun t k' e u m cs hh => (ZdF hrt hh).elim }
end

end Go.Am
