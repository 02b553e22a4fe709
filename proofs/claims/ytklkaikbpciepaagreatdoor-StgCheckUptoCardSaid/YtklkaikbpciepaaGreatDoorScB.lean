/- Part 2 of the proof: the abstract machine and its soundness. It holds for every input, without conditions. -/
import Derived.Orders
import Derived.RangeFuncRecord
import Derived.DataReads
import Derived.Carry
import Derived.ChangeOld
import Derived.Test.YtklkaikbpciepaaGreatDoorScA
set_option linter.unusedVariables false
set_option linter.unusedSimpArgs false
namespace Go.Am
open Go.RowKit
section
variable {P : Program} [Gl P] {w0 : World} {M0 : Nat → Prop} {S0 : ZaA} {L : Tab} (hL : TOk P L) {nt : Nat} {ρ0 : Nat → Nat} {df : List Deferred} {S : AS} {a : Act} {w : World}
theorem Zyx {M1 : Nat → Prop} {St St' : ZaA} {r : D} {bx : ZbV} {v : Value} {w' : World} {ρ : Nat → Nat} (h : ZQ P w M1 St ⟨[(0, r)], bx⟩ #[v] w' St' ρ) (t : Nat) : ZQ P w M1 St ⟨[(0, r.retok t)], []⟩ #[v] w' St' ρ := by
 have h1 : ZQ P w M1 St ⟨[(0, r)], []⟩ #[v] w' St' ρ := h.less ⟨fun i => .inr (.inl rfl), fun n cs hn => by cases hn⟩
 cases r with
 | c tk e =>
  cases tk with
  | none => exact h1
  | some q =>
   obtain ⟨u, k⟩ := q
   have hheld : ∀ {t' k' : Nat} {e' : E} {x : Value}, Zcm ⟨[(0, (D.c (some (u, k)) e).retok t)], []⟩ #[v] w' ρ t' k' e' x → t' = t ∧ Zcm ⟨[(0, .c (some (u, k)) e)], []⟩ #[v] w' ρ u k' e' x := fun hh => by
    rcases hh with ⟨i, hi, hv⟩ | ⟨n, cs, j, hb, _⟩
    ·simp only [AS.get, Z2, D.retok] at hi
     split at hi
     ·rename_i hi0; subst hi0
      simp only [Option.getD_some, D.c.injEq, Option.some.injEq, Prod.mk.injEq] at hi
      obtain ⟨⟨rfl, rfl⟩, rfl⟩ := hi
      exact ⟨rfl, .inl ⟨0, rfl, hv⟩⟩
     ·cases hi
    ·cases hb
   exact { h1 with
    tmp := fun i => by
     have := h1.tmp i
     simp only [AS.get, Z2, D.retok] at this ⊢
     split
     ·rename_i hi; rw [if_pos hi] at this; exact this
     ·exact trivial
    own := fun t' k' e' x hh => h1.own _ _ _ _ (hheld hh).2
    apart := fun t1 k1 e1 x1 t2 k2 e2 x2 hh hh' hne => absurd ((hheld hh).1.trans (hheld hh').1.symm) hne
    ownbox := fun t' k' e' x n cs hh hn => by cases hn }
 | _ => exact h1
theorem Zqk {St : ZaA} {ρ : Nat → Nat} (h3 : ZQ P w0 M0 S0 S a.tmps w St ρ) {f : Operand} {g : Nat} {first cap : List D} (hf : (S.ev f).fn? = some (g, first, cap)) (args : List Operand) :
  ∃ vf vc : Array Value, a.eval f = .func (.func g) vf vc ∧ first.length = vf.size ∧ cap.length = vc.size ∧ ∀ (i : Nat) (d : D), (first ++ args.map S.ev ++ cap)[i]? = some d →
   ∃ v, (vf.toList ++ args.map a.eval ++ vc.toList)[i]? = some v ∧ Zet w St ρ d v ∧ ∀ t k e, d = .c (some (t, k)) e → Zcm S a.tmps w ρ t k e v := by
 have hr := ZbL h3 f
 obtain ⟨vf, vc, hv, hl1, hl2, h1, h2⟩ : ∃ vf vc : Array Value, a.eval f = .func (.func g) vf vc ∧ first.length = vf.size ∧ cap.length = vc.size ∧
   (∀ (i : Nat) (d : D), first[i]? = some d → ∃ v, vf.toList[i]? = some v ∧ Zet w St ρ d v ∧ ∀ t k e, d ≠ .c (some (t, k)) e) ∧
   (∀ (i : Nat) (d : D), cap[i]? = some d → ∃ v, vc.toList[i]? = some v ∧ Zet w St ρ d v ∧ ∀ t k e, d ≠ .c (some (t, k)) e) := by
  have hconst : ∀ (l : List Value) (i : Nat) (d : D), (l.map Zm0)[i]? = some d → ∃ v, l[i]? = some v ∧ Zet w St ρ d v ∧ ∀ t k e, d ≠ .c (some (t, k)) e := fun l i d hd => by
   rw [List.getElem?_map, Option.map_eq_some_iff] at hd
   obtain ⟨v, hv, rfl⟩ := hd
   exact ⟨v, hv, Zs0 w St ρ v, fun t k e he => by simp only [Zm0] at he; split at he <;> first | (split at he <;> cases he) | cases he⟩
  unfold D.fn? at hf
  split at hf
  ·rename_i tk g' vf vc hd
   rw [hd] at hr
   simp only [Option.some.injEq, Prod.mk.injEq] at hf
   obtain ⟨rfl, rfl, rfl⟩ := hf
   obtain ⟨hv, _⟩ := ZfF (d := .c tk (.v (.func (.func g') vf vc))) hr rfl
   exact ⟨vf, vc, hv, by simp, by simp, hconst vf.toList, hconst vc.toList⟩
  ·rename_i tk g' fs cs hd
   rw [hd] at hr
   simp only [Option.some.injEq, Prod.mk.injEq] at hf
   obtain ⟨rfl, rfl, rfl⟩ := hf
   generalize a.eval f = z at hr
   cases (hr : Zca w St ρ (.cl g' fs cs) z) with
   | e _ _ h => cases h
   | cl _ _ _ vs us h1 h2 h3 h4 =>
    have hcell : ∀ (es : List E) (vs : List Value), es.length = vs.length → (∀ (k : Nat) (e : E) (u : Value), es[k]? = some e → vs[k]? = some u → Zca w St ρ e u) → ∀ (i : Nat) (d : D), (es.map (Zle none))[i]? = some d →
      ∃ v, vs[i]? = some v ∧ Zet w St ρ d v ∧ ∀ t k e, d ≠ .c (some (t, k)) e := fun es vs hl hh i d hd => by
     rw [List.getElem?_map, Option.map_eq_some_iff] at hd
     obtain ⟨e, he, rfl⟩ := hd
     have hlt : i < vs.length := by rw [← hl]; exact (List.getElem?_eq_some_iff.1 he).1
     exact ⟨vs[i], List.getElem?_eq_getElem hlt, ZoN (hh i e _ he (List.getElem?_eq_getElem hlt)), fun t k e' h => by cases (Zl1 h).1⟩
    exact ⟨vs.toArray, us.toArray, rfl, by simpa using h1, by simpa using h2, hcell fs vs h1 h3, hcell cs us h2 h4⟩
  ·cases hf
 refine ⟨vf, vc, hv, hl1, hl2, fun i d hd => ?_⟩
 by_cases h3' : i < first.length
 ·rw [List.append_assoc, List.getElem?_append_left h3'] at hd
  obtain ⟨v, hv, hr, ht⟩ := h1 i d hd
  exact ⟨v, by rw [List.append_assoc, List.getElem?_append_left (by simpa [← hl1] using h3')]; exact hv, hr, fun t k e he => absurd he (ht t k e)⟩
 ·by_cases h4 : i < first.length + args.length
  ·rw [List.append_assoc, List.getElem?_append_right (by omega), List.getElem?_append_left (by simp; omega), List.getElem?_map] at hd
   cases hx : args[i - first.length]? with
   | none => simp [hx] at hd
   | some x =>
    rw [hx] at hd
    simp only [Option.map_some, Option.some.injEq] at hd
    subst hd
    refine ⟨a.eval x, ?_, ZbL h3 x, fun t k e he => ZpZ x he⟩
    rw [List.append_assoc, List.getElem?_append_right (by simp; omega), List.getElem?_append_left (by simp; omega), List.getElem?_map]
    simp only [Array.length_toList, ← hl1, hx, Option.map_some]
  ·rw [List.getElem?_append_right (by simp; omega)] at hd
   simp only [List.length_append, List.length_map] at hd
   obtain ⟨v, hv, hr, ht⟩ := h2 _ d hd
   exact ⟨v, by rw [List.getElem?_append_right (by simp; omega)]; simpa [← hl1] using hv, hr, fun t k e he => absurd he (ht t k e)⟩
theorem ZwT (keep : List Nat) {St : ZaA} {ρ : Nat → Nat} {ds : List D} {vs : List Value} (h : ∀ (i : Nat) (d : D), ds[i]? = some d → ∃ v, vs[i]? = some v ∧ Zet w St ρ d v ∧ ∀ t k e, d = .c (some (t, k)) e → Zcm S a.tmps w ρ t k e v) :
  ∀ (i : Nat) (d : D), (ds.map (Zk7 keep))[i]? = some d → ∃ v, vs[i]? = some v ∧ Zet w St ρ d v ∧ ∀ t k e, d = .c (some (t, k)) e → Zcm S a.tmps w ρ t k e v := by
 intro i d hd
 rw [List.getElem?_map] at hd
 cases hdi : ds[i]? with
 | none => rw [hdi] at hd; cases hd
 | some d0 =>
  rw [hdi] at hd
  simp only [Option.map_some, Option.some.injEq] at hd
  subst hd
  obtain ⟨v, h1, h2, h3⟩ := h i d0 hdi
  refine ⟨v, h1, ?_, ?_⟩
  ·cases d0 with
   | c tk e =>
    cases tk with
    | none => exact h2
    | some q => obtain ⟨t, k⟩ := q; simp only [Zk7]; split <;> exact h2
   | _ => exact h2
  ·intro t k e he
   refine h3 t k e ?_
   cases d0 with
   | c tk e' =>
    cases tk with
    | none => exact he
    | some q =>
     obtain ⟨t', k'⟩ := q
     simp only [Zk7] at he
     split at he
     ·cases he
     ·exact he
   | _ => exact he
theorem Zuz : ∀ {l : List (Nat × Nat)} {n c : Nat}, (n, c) ∈ l → n ∈ Znj l ∨ ZlL c = true
 | (a, b) :: l, n, c, h => by
  simp only [Znj]
  rcases List.mem_cons.1 h with h | h
  ·injection h with h1 h2; subst h1 h2
   split
   ·exact .inr (by assumption)
   ·exact .inl (by simp)
  ·rcases Zuz h with h1 | h1
   ·split
    ·exact .inl h1
    ·exact .inl (List.mem_cons_of_mem _ h1)
   ·exact .inr h1
theorem ZyU {r : D} {bx : ZbV} {l : List (Nat × Nat)} (h1 : (l.map (·.1)).Nodup) (h2 : (l.map (·.2)).Nodup) (hlt : ∀ c n, (c, n) ∈ l → n < CAP) {T : ZbV}
  (hT : ∀ m cs, Z2 T m = some cs → ∃ c ds, (c, m) ∈ l ∧ Z2 bx c = some ds ∧ cs = Cell.rens (Zez l) ds) : Zz4 (Zez l) ⟨[(0, r)], bx⟩ ⟨[(0, r.ren (Zez l))], T⟩ where
 get i := by simp only [AS.get, Z2]; split <;> rfl
 box m cs hb := by
  obtain ⟨c, ds, h3, h4, h5⟩ := hT m cs hb
  exact ⟨c, ds, Zk5 h1 h3, h4, h5⟩
 one a b m ha hb := ZsK h2 ha hb
 lt a m h := hlt _ _ (Zhl h)
theorem Zqz (h : Zcv P nt df w0 M0 S0 ρ0 S a w) {o : Oper} {f : Operand} {args : Array Operand} {ts : Array TypeId} (ho : o.op = .call { callee := .value f, args := args, argTypes := ts }) {K : AS → Prop}
  (hk : Zqa P nt S o.dst f args.toList K) {next : Act → World → Prop} {Q : Exit → Act → World → Prop} (hn : ∀ S' a' w', K S' → Zcv P nt df w0 M0 S0 ρ0 S' a' w' → next a' w') : o.wp P a w next Q := by
 obtain ⟨hdef, hsize, St, ρ, h3, h4⟩ := h
 unfold Zqa at hk
 split at hk
 case h_2 => exact hk.elim
 rename_i g first cap hf
 obtain ⟨keep, nm, nw, hk⟩ := hk
 rw [ZfW] at hk
 split at hk
 case h_2 => exact hk.elim
 rename_i bx hbx
 obtain ⟨hd, hcall⟩ := hk
 rw [Bool.and_eq_true] at hd
 obtain ⟨hd, hok⟩ := hd
 rw [ZfW, Zjm] at hcall
 simp only [Zue] at hcall
 obtain ⟨vf, vc, hfv, hl1, hl2, hpair0⟩ := Zqk h3 hf args.toList
 have hpair := ZwT keep hpair0
 generalize hds : (first ++ args.toList.map S.ev ++ cap).map (Zk7 keep) = ds at hpair hcall
 generalize hvs : vf.toList ++ args.toList.map a.eval ++ vc.toList = vs at hpair
 simp only [ZrS, Bool.and_eq_true, Zh2, Zhj] at hok
 obtain ⟨⟨⟨⟨hn1, hn2⟩, hlt1⟩, hlt2⟩, hex⟩ := hok
 replace hn1 := Zin hn1
 replace hn2 := Zin hn2
 have hc1 : ∀ n c, (n, c) ∈ nm → n < CAP ∧ c < CAP := fun n c hm => by
  have h5 := List.all_eq_true.1 hlt1 n (List.mem_append.2 (.inl (List.mem_map.2 ⟨_, hm, rfl⟩)))
  have h6 := List.all_eq_true.1 hlt2 c (List.mem_append.2 (.inl (List.mem_map.2 ⟨_, hm, rfl⟩)))
  exact ⟨by simpa using h5, by simpa using h6⟩
 have hc2 : ∀ c n, (c, n) ∈ nw → n < CAP ∧ c < CAP := fun c n hm => by
  have h5 := List.all_eq_true.1 hlt1 n (List.mem_append.2 (.inr (List.mem_map.2 ⟨_, hm, rfl⟩)))
  have h6 := List.all_eq_true.1 hlt2 c (List.mem_append.2 (.inr (List.mem_map.2 ⟨_, hm, rfl⟩)))
  exact ⟨by simpa using h5, by simpa using h6⟩
 have hnmf : (nm.map (·.1)).Nodup := (List.nodup_append.1 hn1).1
 have hnms : (nm.map (·.2)).Nodup := (List.nodup_append.1 hn2).1
 let bk := Zfm nm ++ nw
 have hbk1 : (bk.map (·.1)).Nodup := by
  have e : bk.map (·.1) = nm.map (·.2) ++ nw.map (·.1) := by simp only [bk, ZeH, List.map_append, List.map_map]; rfl
  rw [e]; exact hn2
 have hbk2 : (bk.map (·.2)).Nodup := by
  have e : bk.map (·.2) = nm.map (·.1) ++ nw.map (·.2) := by simp only [bk, ZeH, List.map_append, List.map_map]; rfl
  rw [e]; exact hn1
 have hbkm : ∀ c n, (c, n) ∈ bk ↔ (n, c) ∈ nm ∨ (c, n) ∈ nw := fun c n => by
  simp only [bk, ZeH, List.mem_append, List.mem_map]
  constructor
  ·rintro (⟨⟨x, y⟩, h5, h6⟩ | h5)
   ·injection h6 with e1 e2; subst e1 e2; exact .inl h5
   ·exact .inr h5
  ·rintro (h5 | h5)
   ·exact .inl ⟨_, h5, rfl⟩
   ·exact .inr h5
 have hbkc : ∀ c n, (c, n) ∈ bk → n < CAP ∧ c < CAP := fun c n hm => by
  rcases (hbkm c n).1 hm with h5 | h5
  ·exact hc1 n c h5
  ·exact hc2 c n h5
 obtain ⟨⟨fn, hfn, hname, hbody⟩, hcall⟩ := hcall
 have hrun : (execOp a.eval o).run P w = .ok (.enter g vs.toArray) w := by
  have hvals : vf ++ args.map a.eval ++ vc = vs.toArray := by rw [← hvs]; apply Array.toList_inj.1; simp
  have hb' : fn.body.isNone = false := hbody
  simp only [execOp, ho, resolve, hfv, Deferred.ofValue, invoke, callFunc, Sem.run_bind, Sem.run_pure, Result.andThen_ok, run_program, hfn, hname, Bool.false_eq_true, if_false, hb', hvals]
 have hlen : vs.length = ds.length := by rw [← hvs, ← hds]; simp [hl1, hl2]
 have hpass := Zpq S (Zez nm) nm bx hbx
 have hsome := ZsG S (Zez nm) nm bx hbx
 let Sa : AS := ⟨ZdY 0 ds, S.boxes.filter fun p => (ZiE nm).contains p.1⟩
 have hSab : ∀ m cs, Sa.box m = some cs → S.box m = some cs ∧ ∃ c, (m, c) ∈ nm := fun m cs hm => by
  have key : ∀ b : ZbV, Z2 (b.filter fun p => (ZiE nm).contains p.1) m = some cs → Z2 b m = some cs ∧ (ZiE nm).contains m = true := by
   intro b
   induction b with
   | nil => intro h; simp [Z2] at h
   | cons p b ih =>
    obtain ⟨x, y⟩ := p
    intro h
    simp only [List.filter_cons] at h
    split at h
    ·rename_i hc
     simp only [Z2] at h ⊢
     by_cases he : m = x
     ·subst he; rw [if_pos rfl] at h ⊢; exact ⟨h, hc⟩
     ·rw [if_neg he] at h ⊢; exact ih h
    ·rename_i hc
     simp only [Z2]
     obtain ⟨h5, h6⟩ := ih h
     by_cases he : m = x
     ·subst he; exact absurd h6 hc
     ·rw [if_neg he]; exact ⟨h5, h6⟩
  obtain ⟨h5, h6⟩ := key S.boxes hm
  refine ⟨h5, ?_⟩
  simp only [Zh2, List.contains_eq_mem, List.mem_map, decide_eq_true_eq] at h6
  obtain ⟨⟨x, y⟩, h7, h8⟩ := h6
  subst h8
  exact ⟨y, h7⟩
 have hget : ∀ i, Sa.get i = (ds[i]?).getD .bot := fun i => ZvQ ds _ i
 have hgetD : ∀ i v, vs[i]? = some v → vs.toArray.getD i undef = v := fun i v hv => by simp [Array.getD_eq_getD_getElem?, hv]
 have hctok : ∀ (cs : List Cell) (j t k : Nat) (e : E), cs[j]? = some (some (t, k), e) → t ∈ Zpe (Cell.rens (Zez nm) cs) := fun cs j t k e hj => by
  refine Zuq (k := k) (e := e.ren (Zez nm)) _ j ?_
  rw [Cell.rens_map, List.getElem?_map, hj]; rfl
 have hheldin : ∀ {t k : Nat} {e : E} {v : Value}, Zcm Sa vs.toArray w ρ t k e v → Zcm S a.tmps w ρ t k e v ∧ t ∈ Zoy ds ++ Zoe bx := fun {t k} {e} {v} hh => by
  rcases hh with ⟨i, hi, hv⟩ | ⟨m, cs, j, hb, hj, hv⟩
  ·rw [hget] at hi
   cases hdi : ds[i]? with
   | none => rw [hdi] at hi; cases hi
   | some d =>
    rw [hdi] at hi
    simp only [Option.getD_some] at hi
    subst hi
    obtain ⟨v', hv', _, hheld⟩ := hpair i _ hdi
    rw [hgetD i v' hv'] at hv
    subst hv
    exact ⟨hheld _ _ _ rfl, List.mem_append.2 (.inl (Zww ds i hdi))⟩
  ·obtain ⟨hSb, c, hc⟩ := hSab m cs hb
   refine ⟨.inr ⟨m, cs, j, hSb, hj, hv⟩, List.mem_append.2 (.inr ?_)⟩
   have hl : Z2 bx c = some (Cell.rens (Zez nm) cs) := by
    have key : ∀ (l : List (Nat × Nat)) (b : ZbV), ZhZ S (Zez nm) l = some b → (l.map (·.2)).Nodup → (m, c) ∈ l → Z2 b c = some (Cell.rens (Zez nm) cs) := by
     intro l
     induction l with
     | nil => intro b _ _ h; simp at h
     | cons p l ih =>
      obtain ⟨x, y⟩ := p
      intro b hb hd hm
      simp only [ZhZ] at hb
      split at hb
      ·rename_i ds' b' h5 h6
       injection hb with hb; subst hb
       simp only [List.map_cons, List.nodup_cons] at hd
       simp only [Z2]
       rcases List.mem_cons.1 hm with hm | hm
       ·injection hm with e1 e2; subst e1 e2
        rw [if_pos rfl]
        rw [hSb] at h5; injection h5 with h5; subst h5; rfl
       ·rw [if_neg (fun e => hd.1 (List.mem_map.2 ⟨(m, c), hm, e⟩))]
        exact ih b' h6 hd.2 hm
      ·cases hb
    exact key nm bx hbx hnms hc
   exact Zuj bx c _ hl (hctok cs j t k e hj)
 let M1 : Nat → Prop := fun b => (∃ t k e v, Zcm Sa vs.toArray w ρ t k e v ∧ v.ownBlock = some b) ∨ ∃ m cs, Sa.box m = some cs ∧ 0 < ρ (CAP + m) ∧ b = ρ m
 have hM1 : ∀ b, M1 b → b < w.heap.size ∧ (w0.heap.size ≤ b ∨ M0 b) := fun b hb => by
  rcases hb with ⟨t, k, e, v, hh, hv⟩ | ⟨m, cs, hm, hp, rfl⟩
  ·exact Zog (h3.own _ _ _ _ (hheldin hh).1) b hv
  ·obtain ⟨h5, h6, _⟩ := h3.blk (hSab m cs hm).1 hp
   exact ⟨h5, h6⟩
 have hin : ZQ P w M1 St Sa vs.toArray w St ρ := {
  glob := h3.glob.later h3.up h3.stay, os := rfl, tape := rfl, output := rfl, size := Nat.le_refl _, old := fun _ _ _ => rfl, stay := fun _ _ _ => rfl, up := fun _ _ hs => hs, dn := fun _ _ hs _ => .inl hs, lt := h3.lt
  tmp := fun i => by
   rw [hget]
   cases hdi : ds[i]? with
   | none => exact trivial
   | some d =>
    obtain ⟨v, hv, hr, _⟩ := hpair i d hdi
    rw [hgetD i v hv]
    exact hr
  nm := fun m cs hm => h3.nm m cs (hSab m cs hm).1
  box := fun m cs hm => by
   rcases h3.box m cs (hSab m cs hm).1 with h5 | ⟨h0, _, h6, h7⟩
   ·exact .inl h5
   ·exact .inr ⟨h0, .inr (.inr ⟨m, cs, hm, h0, rfl⟩), h6, h7⟩
  inj := fun m m' cs cs' hm hm' => h3.inj m m' cs cs' (hSab m cs hm).1 (hSab m' cs' hm').1
  own := fun t k e v hh => by
   rcases h3.own _ _ _ _ (hheldin hh).1 with h5 | ⟨g', cap', cur, rows, h5, h6, _, h8⟩
   ·exact .inl h5
   ·exact .inr ⟨g', cap', cur, rows, h5, h6, .inr (.inl ⟨t, k, e, v, hh, by rw [h6]; rfl⟩), h8⟩
  apart := fun t k e v t' k' e' v' hh hh' hne => h3.apart _ _ _ _ _ _ _ _ (hheldin hh).1 (hheldin hh').1 hne
  ownbox := fun t k e v m cs hh hm => h3.ownbox _ _ _ _ m cs (hheldin hh).1 (hSab m cs hm).1 }
 let ρ1 : Nat → Nat := fun m => if m < CAP then (match Zez (Zfm nm) m with | some n => ρ n | none => 0) else (match Zez (Zfm nm) (m - CAP) with | some n => ρ (CAP + n) | none => 0)
 have hsw : ∀ n c, (n, c) ∈ nm → Zez (Zfm nm) c = some n := fun n c hm => by
  refine Zk5 (by rw [ZeH, List.map_map]; exact hnms) ?_
  rw [ZeH]; exact List.mem_map.2 ⟨_, hm, rfl⟩
 have hlead1 : Zoj (Zez nm) ρ ρ1 := fun n c hm => by
  have hm := Zhl hm
  obtain ⟨h5, h6⟩ := hc1 n c hm
  have h7 := hsw n c hm
  refine ⟨?_, ?_⟩
  ·simp only [ρ1, if_pos h6, h7]
  ·have e1 : CAP + c - CAP = c := by omega
   simp only [ρ1, if_neg (show ¬ CAP + c < CAP by omega), e1, h7]
 have hin2 : ZQ P w M1 St ⟨ZdY 0 (ds.map (D.ren (Zez nm))), bx⟩ vs.toArray w St ρ1 := by
  refine hin.turn (f := Zez nm) ⟨fun i => ?_, fun c cs hc => ?_, fun n n' m h5 h6 => ZsK hnms h5 h6, fun n c h5 => (hc1 _ _ (Zhl h5)).2⟩ hlead1
  ·rw [ZvQ, hget, List.getElem?_map]; cases ds[i]? <;> rfl
  ·obtain ⟨n, ds', h5, h6, h7⟩ := hpass c cs hc
   refine ⟨n, ds', Zk5 hnmf h5, ?_, h7⟩
   have key : ∀ b : ZbV, Z2 b n = some ds' → Z2 (b.filter fun p => (ZiE nm).contains p.1) n = some ds' := by
    have hcn : (ZiE nm).contains n = true := by
     simp only [Zh2, List.contains_eq_mem, List.mem_map, decide_eq_true_eq]; exact ⟨_, h5, rfl⟩
    intro b
    induction b with
    | nil => intro h; simp [Z2] at h
    | cons p b ih =>
     obtain ⟨x, y⟩ := p
     intro h
     simp only [List.filter_cons]
     simp only [Z2] at h
     by_cases he : n = x
     ·subst he
      rw [if_pos rfl] at h
      rw [if_pos hcn]; simp only [Z2, if_true]; exact h
     ·rw [if_neg he] at h
      split
      ·simp only [Z2, if_neg he]; exact ih h
      ·exact ih h
   exact key S.boxes h6
 have hc := hcall w St M1 vs.toArray ρ1 (by simp [hlen]) hin2
 unfold Oper.wp
 rw [hrun, Oper.upon_enter]
 refine hc.mono ?_
 rintro e w' ⟨v, r, bx', St', ρ', rfl, hK, hρ', hout⟩
 let ρ2 : Nat → Nat := fun m => if m < CAP then (match Zez (Zfm bk) m with | some c => ρ' c | none => ρ m) else (match Zez (Zfm bk) (m - CAP) with | some c => ρ' (CAP + c) | none => ρ m)
 have hsw2 : ∀ c n, (c, n) ∈ bk → Zez (Zfm bk) n = some c := fun c n hm => by
  refine Zk5 (by rw [ZeH, List.map_map]; exact hbk2) ?_
  rw [ZeH]; exact List.mem_map.2 ⟨_, hm, rfl⟩
 have hlead2 : Zoj (Zez bk) ρ' ρ2 := fun c n hm => by
  have hm := Zhl hm
  obtain ⟨h5, h6⟩ := hbkc c n hm
  have h7 := hsw2 c n hm
  refine ⟨?_, ?_⟩
  ·simp only [ρ2, if_pos h5, h7]
  ·have e1 : CAP + n - CAP = n := by omega
   simp only [ρ2, if_neg (show ¬ CAP + n < CAP by omega), e1, h7]
 let L := Znj nm ++ Zlm nw
 have hleadF : Zoj (Zj1 L) ρ ρ2 := fun n m hm => by
  obtain ⟨rfl, h5, h6⟩ := ZfY hm
  have e1 : CAP + n - CAP = n := by omega
  simp only [ρ2, if_pos h6, if_neg (show ¬ CAP + n < CAP by omega), e1]
  cases hs : Zez (Zfm bk) n with
  | none => exact ⟨rfl, rfl⟩
  | some c =>
   have hm := Zhl hs
   rw [ZeH] at hm
   obtain ⟨⟨x, y⟩, h7, h8⟩ := List.mem_map.1 hm
   injection h8 with e2 e3; subst e2 e3
   rcases (hbkm x y).1 h7 with h9 | h9
   ·rcases Zuz h9 with h10 | h10
    ·exact absurd (List.mem_append.2 (.inl h10)) h5
    ·have hle : EXT ≤ x ∧ x < NEW := by simpa [ZlL] using h10
     obtain ⟨e4, e5⟩ := hρ' x hle.1 hle.2
     obtain ⟨e6, e7⟩ := hlead1 y x (Zk5 hnmf h9)
     exact ⟨e4.trans e6, e5.trans e7⟩
   ·exact absurd (List.mem_append.2 (.inr (by rw [Zhj]; exact List.mem_map.2 ⟨_, h9, rfl⟩))) h5
 let Fs := S.stripAll (Zoy ds ++ Zoe bx)
 have hFs := h3.less (Zh0 (Zoy ds ++ Zoe bx) S)
 let F0 := Fs.killN L
 have hF0 : ZQ P w0 M0 S0 F0 a.tmps w St ρ2 := hFs.turn (Zm7 L hFs.nm) hleadF
 let F : AS := ⟨F0.tmps, Zu0 (ZiE nm) F0.boxes⟩
 have hFbox : ∀ m cs, F.box m = some cs → F0.box m = some cs ∧ m ∉ nm.map (·.1) := fun m cs hm => by
  have hm : Z2 (Zu0 (ZiE nm) F0.boxes) m = some cs := hm
  rw [Zjp] at hm
  split at hm
  ·cases hm
  ·rename_i hc'; exact ⟨hm, by simpa [Zh2] using hc'⟩
 have hFrel : ZQ P w0 M0 S0 F a.tmps w St ρ2 := hF0.less ⟨fun i => .inr (.inl rfl), fun n cs hb => ⟨cs, (hFbox n cs hb).1, rfl, fun k c hc => ⟨c, hc, rfl, .inl rfl⟩⟩⟩
 have hF0S : ∀ m cs, F0.box m = some cs → ∃ ds0, Fs.box m = some ds0 ∧ m ∉ L ∧ m < CAP := fun m cs hm => by
  obtain ⟨n, ds0, h5, h6, _⟩ := (Zm7 L hFs.nm).box m cs hm
  obtain ⟨rfl, h7, h8⟩ := ZfY h5
  exact ⟨ds0, h6, h7, h8⟩
 have hFheld : ∀ {t k : Nat} {e : E} {u : Value}, Zcm F a.tmps w ρ2 t k e u → Zcm S a.tmps w ρ t k e u ∧ t ∉ Zoy ds ++ Zoe bx := fun {t k} {e} {u} hh => by
  have h5 : Zcm Fs a.tmps w ρ t k e u := by
   rcases hh with ⟨i, hi, hv⟩ | ⟨m, cs, j, hb, hj, hv⟩
   ·obtain ⟨e0, h6, h7⟩ := Zx9 (Zm7 L hFs.nm).get (i := i) hi
    have := (hFs.own _ _ _ _ (.inl ⟨i, h6, hv⟩)).ren (Zj1 L)
    rw [h7, this]; exact .inl ⟨i, h6, hv⟩
   ·obtain ⟨hb0, _⟩ := hFbox m cs hb
    obtain ⟨n, ds0, h6, h7, rfl⟩ := (Zm7 L hFs.nm).box m cs hb0
    obtain ⟨e0, h8, h9⟩ := Zmf hj
    have hv' : w.cell? ⟨ρ n, j, none⟩ = some u := by rw [← (hleadF n m h6).1]; exact hv
    have := (hFs.own _ _ _ _ (.inr ⟨n, ds0, j, h7, h8, hv'⟩)).ren (Zj1 L)
    rw [h9, this]; exact .inr ⟨n, ds0, j, h7, h8, hv'⟩
  exact ⟨h5.less (Zh0 _ S), Zpc _ S h5⟩
 have hFS : ∀ m cs, F.box m = some cs → (∃ ds0, S.box m = some ds0) ∧ m ∉ nm.map (·.1) ∧ ρ2 m = ρ m ∧ ρ2 (CAP + m) = ρ (CAP + m) ∧ m ∉ bk.map (·.2) := fun m cs hm => by
  obtain ⟨h5, h6⟩ := hFbox m cs hm
  obtain ⟨ds0, h7, h8, h9⟩ := hF0S m cs h5
  obtain ⟨ds1, h10, _⟩ := (Zh0 (Zoy ds ++ Zoe bx) S).box m ds0 h7
  have hbut : Zj1 L m = some m := by unfold Zj1; rw [if_neg (by simpa using h8), if_pos h9]
  refine ⟨⟨ds1, h10⟩, h6, (hleadF m m hbut).1, (hleadF m m hbut).2, fun hb => ?_⟩
  obtain ⟨⟨c, n⟩, h11, h12⟩ := List.mem_map.1 hb
  subst h12
  rcases (hbkm c n).1 h11 with h13 | h13
  ·exact h6 (List.mem_map.2 ⟨_, h13, rfl⟩)
  ·exact h8 (List.mem_append.2 (.inr (by rw [Zhj]; exact List.mem_map.2 ⟨_, h13, rfl⟩)))
 have hFM : ∀ t k e u, Zcm F a.tmps w ρ2 t k e u → ∀ b, u.ownBlock = some b → ¬ M1 b := fun t k e u hh b hb hm => by
  obtain ⟨h5, h6⟩ := hFheld hh
  rcases hm with ⟨t', k', e', v', hh', hv'⟩ | ⟨m, cs, hm, hp, rfl⟩
  ·obtain ⟨h7, h8⟩ := hheldin hh'
   have := h3.apart _ _ _ _ _ _ _ _ h5 h7 (fun he => h6 (he ▸ h8))
   rw [hb, hv'] at this
   simp at this
  ·exact h3.ownbox _ _ _ _ m cs h5 (hSab m cs hm).1 hp hb
 have hFbM : ∀ m cs, F.box m = some cs → 0 < ρ2 (CAP + m) → ¬ M1 (ρ2 m) := fun m cs hm hp hM => by
  obtain ⟨⟨ds0, hSm⟩, hmn, e1, e2, _⟩ := hFS m cs hm
  rw [e2] at hp
  rw [e1] at hM
  rcases hM with ⟨t', k', e', v', hh', hv'⟩ | ⟨m', cs', hm', hp', he⟩
  ·exact h3.ownbox _ _ _ _ m ds0 (hheldin hh').1 hSm hp hv'
  ·obtain ⟨hSb, c, hcm⟩ := hSab m' cs' hm'
   have hne : m ≠ m' := fun e => hmn (e ▸ List.mem_map.2 ⟨_, hcm, rfl⟩)
   exact h3.inj m m' ds0 cs' hSm hSb hne hp hp' he
 have hFw := hFrel.frame hout hM1 hFM hFbM
 let r1 : D := if nm.isEmpty && nw.isEmpty then (match o.dst with | some d => r.retok d | none => r) else r.plain
 let Bk : ZbV := Zmi bx' (Zez bk) bk F0.boxes
 have hBk := fun m cs => Zsq bx' (Zez bk) bk F0.boxes m cs hbk2
 obtain ⟨bx1, hout1, hbx1⟩ : ∃ bx1, ZQ P w M1 St ⟨[(0, r1)], bx1⟩ #[v] w' St' ρ' ∧ ∀ c n ds0, (c, n) ∈ bk → Z2 bx' c = some ds0 → Z2 bx1 c = some ds0 := by
  by_cases hne : (nm.isEmpty && nw.isEmpty) = true
  ·have hb0 : bk = [] := by
    rw [Bool.and_eq_true, List.isEmpty_iff, List.isEmpty_iff] at hne
    obtain ⟨e1, e2⟩ := hne
    simp only [bk, e1, e2, Zfm]; rfl
   have e1 : r1 = (match o.dst with | some d => r.retok d | none => r) := by simp only [r1, hne, if_true]
   rw [e1]
   cases hdst : o.dst with
   | none => exact ⟨bx', hout, fun c n ds0 hm => by rw [hb0] at hm; simp at hm⟩
   | some d => exact ⟨[], Zyx hout d, fun c n ds0 hm => by rw [hb0] at hm; simp at hm⟩
  ·have e1 : r1 = r.plain := by simp only [r1, if_neg hne]
   rw [e1]
   refine ⟨bx', hout.less ⟨fun i => ?_, fun n cs hn' => ⟨cs, hn', rfl, fun k c hc' => ⟨c, hc', rfl, .inl rfl⟩⟩⟩, fun c n ds0 _ h => h⟩
   simp only [AS.get, Z2]
   split
   ·simp only [Option.getD_some]
    cases r with
    | c tk' e' => cases tk' with
     | none => exact .inr (.inl rfl)
     | some q => exact .inr (.inr ⟨q, e', rfl, rfl⟩)
    | _ => exact .inr (.inl rfl)
   ·exact .inl rfl
 let T : ZbV := Bk.filter fun p => (Zlm bk).contains p.1
 have hTl : ∀ m, Z2 T m = if (Zlm bk).contains m then Z2 Bk m else none := fun m => by
  have key : ∀ b : ZbV, Z2 (b.filter fun p => (Zlm bk).contains p.1) m = if (Zlm bk).contains m then Z2 b m else none := by
   intro b
   induction b with
   | nil => simp [Z2]
   | cons p b ih =>
    obtain ⟨x, y⟩ := p
    simp only [List.filter_cons]
    by_cases he : m = x
    ·subst he
     split
     ·rename_i hc'; simp only [Z2, if_true, hc']
     ·rename_i hc'; rw [ih, if_neg hc']; try rw [if_neg hc']
    ·split
     ·simp only [Z2, if_neg he, ih]
     ·simp only [Z2, if_neg he, ih]
  exact key Bk
 have hC := hout1.turn (f := Zez bk) (ZyU hbk1 hbk2 (fun c n hm => (hbkc c n hm).1) (T := T) (fun m cs hm => by
  rw [hTl] at hm
  split at hm
  ·rename_i hcm
   rcases hBk m cs hm with ⟨c, ds0, h5, h6, h7⟩ | ⟨h5, _⟩
   ·exact ⟨c, ds0, h5, hbx1 c m ds0 h5 h6, h7⟩
   ·exact absurd (by simpa [Zhj] using hcm) h5
  ·cases hm)) hlead2
 refine hn _ _ _ hK ⟨by rw [Zhg]; exact hdef, by rw [ZeQ]; exact hsize, St', ρ2, ?_, ?_⟩
 ·refine hFrel.merge (F := F) (v := v) hFw hC hM1 hFM hFbM (dst := o.dst) ?_ rfl ?_ ?_
  ·intro j
   cases hdst : o.dst with
   | none => simp [Act.put]
   | some d =>
    rw [hdst] at hd
    have hd : d < nt := of_decide_eq_true hd
    simp only [Act.put, Option.some.injEq]
    rw [Zok _ _ _ _ (by rw [hsize]; exact hd)]
    by_cases he : j = d
    ·rw [if_pos he, if_pos he.symm]
    ·rw [if_neg he, if_neg (fun e => he e.symm)]
  ·intro j
   cases hdst : o.dst with
   | none => simp [AS.putO]; rfl
   | some d =>
    simp only [AS.putO, Ze1, Option.some.injEq]
    by_cases he : j = d
    ·rw [if_pos he, if_pos he.symm]
     simp only [AS.get, Z2, if_true, Option.getD_some, r1, hdst]; rfl
    ·rw [if_neg he, if_neg (fun e => he e.symm)]; rfl
  ·intro m cs hm
   have hb : ∀ (X : AS) (dd : D), (X.putO o.dst dd).box m = X.box m := fun X dd => by cases o.dst <;> rfl
   rw [hb] at hm
   have hm' : Z2 Bk m = some cs := hm
   by_cases hcm : (Zlm bk).contains m = true
   ·refine .inr ⟨by show Z2 T m = _; rw [hTl, if_pos hcm]; exact hm', ?_⟩
    cases hF : F.box m with
    | none => rfl
    | some cs0 => exact absurd (by simpa [Zhj] using hcm) (hFS m cs0 hF).2.2.2.2
   ·rcases hBk m cs hm' with ⟨c, ds0, h5, _⟩ | ⟨_, h6⟩
    ·exact absurd (by simp only [Zhj, List.contains_eq_mem, decide_eq_true_eq]; exact List.mem_map.2 ⟨_, h5, rfl⟩) hcm
    ·left
     show Z2 (Zu0 (ZiE nm) F0.boxes) m = some cs
     rw [Zjp, if_neg]
     ·exact h6
     ·intro hc'
      simp only [Zh2, List.contains_eq_mem, List.mem_map, decide_eq_true_eq] at hc'
      obtain ⟨⟨x, y⟩, h7, h8⟩ := hc'
      subst h8
      exact hcm (by simp only [Zhj, List.contains_eq_mem, decide_eq_true_eq]; exact List.mem_map.2 ⟨(y, x), (hbkm y x).2 (.inl h7), rfl⟩)
 ·intro n hn1' hn2'
  have hnL : n ∉ L := fun hm => by
   have := List.all_eq_true.1 hex n (by rw [← Zhj]; exact hm)
   simp only [ZlL, Bool.not_eq_true', Bool.and_eq_false_iff] at this
   rcases this with h5 | h5
   ·have : Nat.ble EXT n = true := Nat.ble_eq ▸ hn1'
    rw [this] at h5; cases h5
   ·have : Nat.blt n NEW = true := by simpa using hn2'
    rw [this] at h5; cases h5
  have hcap : n < CAP := by unfold CAP; unfold NEW at hn2'; omega
  have hbut : Zj1 L n = some n := by unfold Zj1; rw [if_neg (by simpa using hnL), if_pos hcap]
  obtain ⟨e1, e2⟩ := hleadF n n hbut
  obtain ⟨e3, e4⟩ := h4 n hn1' hn2'
  exact ⟨e1.trans e3, e2.trans e4⟩
end

section
variable {P : Program} [Gl P] {w0 : World} {M0 : Nat → Prop} {S0 : ZaA} {L : Tab} (hL : TOk P L) {nt : Nat} {ρ0 : Nat → Nat} {df : List Deferred} {S : AS} {a : Act} {w : World} {St : ZaA} {ρ : Nat → Nat}
omit [Gl P] in
theorem Zvv {d : TypeDesc} {key : List E} {kv : Value} {kt vt : Nat} (hkv : Ze9 w St ρ key [kv]) (hfit : ZkJ (ZhK d) key = true) (hag : ZjR P kt = false) (hk1 : P.cellsOf kt = 1) (val : List E) :
  ∀ (rows : List (List E)) (es : List MapEntry) (rows' : List (List E)), rows.length = es.length →
   (∀ (i : Nat) (row : List E), rows[i]? = some row → ∃ (en : MapEntry) (us vs : List Value), es[i]? = some en ∧ en.key = ZjW (ZjR P kt) us ∧ en.val = ZjW (ZjR P vt) vs ∧ us.length = P.cellsOf kt ∧ ZgT w St row (us ++ vs)) →
   ZnZ 1 key val rows = some rows' →
   (rows' = rows ++ [key ++ val] ∧ ∀ en ∈ es, en.key ≠ kv) ∨ ∃ j en, es[j]? = some en ∧ en.key = kv ∧ rows' = rows.set j (key ++ val)
 | [], es, r, hl, _, hr => by
  have : es = [] := List.eq_nil_of_length_eq_zero hl.symm
  subst this
  simp only [ZnZ, Option.some.injEq] at hr
  subst hr; exact .inl ⟨rfl, by simp⟩
 | row :: rows, [], r, hl, _, _ => by simp at hl
 | row :: rows, en :: es, r, hl, he, hr => by
  obtain ⟨en', us, vs, h1, h2, h3, h4, h5⟩ := he 0 row rfl
  simp only [List.getElem?_cons_zero, Option.some.injEq] at h1
  subst h1
  obtain ⟨_, hkeq⟩ := Zxk hkv hfit hag hk1 h2 h4 h5
  simp only [ZnZ] at hr
  split at hr
  ·rename_i hk
   injection hr with hr; subst hr
   exact .inr ⟨0, en, rfl, (hkeq _ hk).1 rfl, rfl⟩
  ·rename_i hk
   split at hr
   case h_2 => cases hr
   rename_i r1 hr1
   injection hr with hr; subst hr
   have hne : en.key ≠ kv := fun e => by have := (hkeq _ hk).2 e; cases this
   rcases Zvv hkv hfit hag hk1 val rows es r1 (by simpa using hl) (fun j row hj => by simpa using he (j + 1) row (by simpa using hj)) hr1 with ⟨rfl, h7⟩ | ⟨j, en2, h7, h8, rfl⟩
   ·refine .inl ⟨rfl, fun x hx => ?_⟩
    rcases List.mem_cons.1 hx with rfl | hx
    ·exact hne
    ·exact h7 x hx
   ·exact .inr ⟨j + 1, en2, by simpa using h7, h8, rfl⟩
  ·cases hr
theorem Zwn {l : List MapEntry} (h : (l.map (·.key)).Nodup) {f : MapEntry → MapEntry} {kv : Value} {q : MapEntry → Bool} (hq : ∀ x ∈ l, (q x = true ↔ x.key = kv)) : ∀ {j : Nat} {en : MapEntry}, l[j]? = some en → en.key = kv → l.set j (f en) = l.map fun x => bif q x then f x else x := by
 induction l with
 | nil => intro j en hj; simp at hj
 | cons a l ih =>
  intro j en hj hk
  simp only [List.map_cons, List.nodup_cons] at h
  have hqa := hq a (by simp)
  cases j with
  | zero =>
   simp only [List.getElem?_cons_zero, Option.some.injEq] at hj
   subst hj
   rw [List.set_cons_zero, List.map_cons, hqa.2 hk]
   congr 1
   symm
   refine (List.map_congr_left fun x hx => ?_).trans (List.map_id l)
   have : q x = false := by
    cases hb : q x with
    | false => rfl
    | true => exact (h.1 (List.mem_map.2 ⟨x, hx, by rw [((hq x (by simp [hx])).1 hb), hk]⟩)).elim
   rw [this]; rfl
  | succ j =>
   rw [List.getElem?_cons_succ] at hj
   rw [List.set_cons_succ, List.map_cons]
   have : q a = false := by
    cases hb : q a with
    | false => rfl
    | true => exact (h.1 (List.mem_map.2 ⟨en, List.mem_of_getElem? hj, by rw [hk, hqa.1 hb]⟩)).elim
   rw [this, ih h.2 (fun x hx => hq x (by simp [hx])) hj hk]; rfl
theorem Zvk (h : Zcv P nt df w0 M0 S0 ρ0 S a w) (hL : TOk P L) {o : Oper} {t d u v : Nat} {r : Option Operand} (ho : o.op = .makeMap t r) (hdst : o.dst = some d) (hd : d < nt) (hnt : nt ≤ EXT) (hk : (L.ti t).k = .map u v) (hu : (L.ti u).known = true)
  (hr : match r with | none => True | some x => (S.ev x).int?.isSome = true) {next : Act → World → Prop} {Q : Exit → Act → World → Prop}
  (hnext : ∀ a' w', Zcv P nt df w0 M0 S0 ρ0 (((S.kill d).setBox d [(none, .ob (2 * t + 1) [])]).put d (.c none (.rf d))) a' w' → next a' w') : o.wp P a w next Q := by
 obtain ⟨h1, h2, St, ρ, h3, h4⟩ := h
 obtain ⟨dd, ti, ht⟩ := hL.ty (t := t) (.inl (ZaD hk (by simp)))
 obtain rfl := Zs2 (ht.k.symm.trans hk)
 obtain ⟨dk, tik, htk⟩ := hL.ty (t := u) (.inl hu)
 have hc : d < CAP := by unfold CAP; unfold EXT at hnt; omega
 have hrun : (execOp a.eval o).run P w = .ok (.value (.map (some w.heap.size))) (w.alloc (.map #[] 0)) := by
  cases r with
  | none => simp only [execOp, ho, Instr.makeMap, Option.map_none, Sem.run_bind, Sem.run_pure, run_newObj, Result.andThen_ok, World.alloc_eq]
  | some x =>
   simp only at hr
   cases hi : (S.ev x).int? with
   | none => rw [hi] at hr; cases hr
   | some n =>
    obtain ⟨k, hv⟩ := Zm5 (ZbL h3 x) hi
    simp only [execOp, ho, Instr.makeMap, Option.map_some, hv, Sem.run_bind, run_underlying ht.und, asInt, asIntOf, Sem.run_pure, run_newObj, Result.andThen_ok, World.alloc_eq]
 unfold Oper.wp
 rw [hrun, Oper.upon_value, hdst]
 refine hnext _ _ ⟨h1, by rw [ZeQ]; exact h2, St, _, h3.newObj (.map #[] 0) 1 hc (by omega) (by omega) (fun ρ' hρ => ?_) (fun ρ' hρ => ?_) (fun _ _ he => by cases he) (fun j t' k e u' hj hu => ?_), fun n hn hn2 => ?_⟩
 ·subst hρ
  exact .map t u v dk [] #[] 0 [] ht.und htk.und (by rw [Zhy]; exact heap_alloc_new w _) (.refl _) rfl (fun i row hi => by simp at hi) (Go.MapKept.stamped_empty 0) (by simp)
 ·subst hρ
  have : Zca (w.alloc (.map #[] 0)) St (ZhU ρ d w.heap.size 1) (.rf d) (.map (some (ZhU ρ d w.heap.size 1 d))) := .rf d
  rw [Zhy] at this
  exact this
 ·cases j with
  | zero => simp at hj
  | succ j => simp at hj
 ·rw [ZoP (by omega) (by unfold CAP; unfold NEW at hn2; omega), ZnW (by omega) hc]; exact h4 n hn hn2
theorem Zxz {n : Nat} {v : Value} (h : Zca w St ρ (.rf n) v) : v = .map (some (ρ n)) := by
 cases h with
 | e _ _ h => cases h
 | rf => rfl
include hL in
set_option maxHeartbeats 1000000 in
theorem Zrd (h : Zcv P nt df w0 M0 S0 ρ0 S a w) {o : Oper} {t : Nat} {m k x : Operand} (ho : o.op = .mapUpdate t m k x ∨ o.op = .insert t m k x) {K : AS → Prop} (hk : Zgd L S o.dst t (S.ev m) (S.ev k) (S.ev x) K) {next : Act → World → Prop} {Q : Exit → Act → World → Prop}
  (hnext : ∀ S' a' w', K S' → Zcv P nt df w0 M0 S0 ρ0 S' a' w' → next a' w') : o.wp P a w next Q := by
 obtain ⟨hd1, hd2, St, ρ, h3, h4⟩ := h
 have hm := ZbL h3 m
 have hkr := ZbL h3 k
 have hx := ZbL h3 x
 unfold Zgd at hk
 split at hk
 case h_2 => exact hk.elim
 rename_i kt vt tk n ke val hmt hmd hkey hval
 split at hk
 case h_2 => exact hk.elim
 rename_i code rows hb
 obtain ⟨hdst, rfl, hfit, hks, hkn, hlen, hflat, hisA, val', rows', hwl, hput, hK⟩ := hk
 obtain ⟨d, ti, ht⟩ := hL.ty (t := t) (.inl (ZaD hmt (by simp)))
 obtain rfl := Zs2 (ht.k.symm.trans hmt)
 obtain ⟨dk, tik, htk⟩ := hL.ty (t := kt) (.inr (by omega))
 obtain ⟨dv, tiv, htv⟩ := hL.ty (t := vt) (.inl hkn)
 obtain ⟨kt', vt', dk', es, clock, l, hu, hud, hh, hp, hl, hent, hst, hiskey⟩ := Zvb h3 (by rw [ht.und]; simp) hb
 have hu2 := hu.symm.trans ht.und
 simp only [Option.some.injEq, TypeDesc.map.injEq] at hu2
 obtain ⟨e1, e2⟩ := hu2
 subst kt' vt'
 have hke := ZzK? hkr hkey
 have hkv : Ze9 w St ρ [ke] [a.eval k] := ⟨rfl, fun i e hi => by
  cases i with
  | zero => simp only [List.getElem?_cons_zero, Option.some.injEq] at hi; subst hi; exact ⟨_, rfl, hke⟩
  | succ i => simp at hi⟩
 have hfit' : ZkJ (ZhK dk) [ke] = true := by rw [← htk.k]; exact hfit
 have hkey' := ZoC (d := dk) hkv hfit'
 have hag : ZjR P kt = false := by
  unfold ZjR; rw [htk.und]
  cases dk <;> simp_all [Go.MapKept.IsKey]
 have hcs : P.cellsOf kt = 1 := by unfold Program.cellsOf; rw [htk.info]; simp [← htk.size, hks]
 obtain rfl : dk' = dk := by have := hud.symm.trans htk.und; injection this
 have hput' := Zvv (P := P) hkv hfit' hag hcs val' rows l rows' hl hent hput
 have hspec := Go.MapKept.findNow_spec hkey' es.toList 0 (fun x hx => hiskey x (hp.mem_iff.2 hx))
 have hx' : a.eval m = .map (some (ρ n)) := by rw [hmd] at hm; exact Zxz hm
 obtain ⟨vs, hvs, hvv⟩ : ∃ vs, ZgT w St val vs ∧ a.eval x = ZjW (ZjR P vt) vs := by
  have hagv : ZjR P vt = (L.ti vt).isAgg := by
   unfold ZjR TI.isAgg; rw [htv.und, htv.k]
   cases dv <;> rfl
  rw [hagv, ← hisA]
  cases hxd : S.ev x with
  | c tk e =>
   rw [hxd] at hx hval
   simp only [D.es, Option.some.injEq] at hval
   subst hval
   simp only [List.all_cons, List.all_nil, Bool.and_true] at hflat
   refine ⟨[a.eval x], ⟨rfl, fun i e' hi => ?_⟩, rfl⟩
   cases i with
   | zero => simp only [List.getElem?_cons_zero, Option.some.injEq] at hi; subst hi; exact ⟨_, rfl, Zca.plain hx hflat⟩
   | succ i => simp at hi
  | agg es =>
   rw [hxd] at hx hval
   simp only [D.es, Option.some.injEq] at hval
   subst hval
   obtain ⟨vs, hv, hr⟩ := hx
   exact ⟨vs, hr.plain hflat, hv⟩
  | ptr n off => rw [hxd] at hval; simp only [D.es, Option.some.injEq] at hval; subst hval; simp [E.flat] at hflat
  | _ => rw [hxd] at hval; cases hval
 replace hvs := ZgT.weak hwl hvs
 have hnew : ZgT w St ([ke] ++ val') ([a.eval k] ++ vs) := by
  have hke' : Zdo w St ke (a.eval k) := by
   refine Zca.plain hke ?_
   unfold ZkJ at hfit'
   split at hfit' <;> first | (rename_i h; injection h with h _; subst h; rfl) | (rename_i _ h; injection h with h _; subst h; rfl) | cases hfit'
  refine ⟨by simp [hvs.1], fun i e hi => ?_⟩
  cases i with
  | zero => simp only [List.cons_append, List.getElem?_cons_zero, Option.some.injEq] at hi; subst hi; exact ⟨_, rfl, hke'⟩
  | succ i => simpa using hvs.2 i e (by simpa using hi)
 have hvalA : a.eval k = ZjW (ZjR P kt) [a.eval k] := by rw [hag]; rfl
 have key : ∀ (es' : Array MapEntry) (clock' : Nat) (l' : List MapEntry), (Instr.mapUpdate t (a.eval m) (a.eval k) (a.eval x)).run P w = .ok () { w with heap := w.heap.setIfInBounds (ρ n) (.map es' clock') } → l'.Perm es'.toList → rows'.length = l'.length → Go.MapKept.Stamped es' clock' → (∀ x ∈ l', Go.MapKept.IsKey dk' x.key) →
   (∀ (i : Nat) (row : List E), rows'[i]? = some row → (∃ en, l'[i]? = some en ∧ en.key = a.eval k ∧ en.val = a.eval x ∧ row = [ke] ++ val') ∨ (∃ en, l'[i]? = some en ∧ l[i]? = some en ∧ rows[i]? = some row)) → o.wp P a w next Q := fun es' clock' l' hrun hp' hl' hst' hik' hent' => by
  have hrun' : (execOp a.eval o).run P w = .ok .skip { w with heap := w.heap.setIfInBounds (ρ n) (.map es' clock') } := by
   rcases ho with ho | ho <;> simp only [execOp, ho, Sem.run_bind, hrun, Result.andThen_ok, Sem.run_pure]
  unfold Oper.wp
  rw [hrun', Oper.upon_skip, hdst]
  have hpos : 0 < ρ (CAP + n) := by
   rcases h3.box n _ hb with ⟨_, k', he⟩ | ⟨h0, _⟩
   ·simp only [List.cons.injEq, Prod.mk.injEq, E.ob.injEq] at he; omega
   ·exact h0
  refine hnext _ _ _ hK ⟨hd1, hd2, St, ρ, h3.storeObj hb hpos (fun j t k e => by cases j <;> simp) (fun hoth hlat => ?_) rfl rfl rfl (by simp) (fun b hb' => (Go.MapKept.heap_set hh).2 b hb'), h4⟩
  refine .map t kt vt dk' rows' es' clock' l' ht.und hud (Go.MapKept.heap_set hh).1 hp' hl' (fun i row hi => ?_) hst' hik'
  rcases hent' i row hi with ⟨en, h5, h6, h7, rfl⟩ | ⟨en, h5, h6, h9⟩
  ·exact ⟨en, [a.eval k], vs, h5, by rw [h6]; exact hvalA, by rw [h7]; exact hvv, by rw [hcs]; rfl, hnew.later hlat⟩
  ·obtain ⟨en2, us, vs2, h10, h11, h12, h13, h14⟩ := hent i row h9
   rw [h6] at h10; injection h10 with h10; subst h10
   exact ⟨en, us, vs2, h5, h11, h12, h13, h14.later hlat⟩
 rcases hput' with ⟨rfl, hne⟩ | ⟨j, en, hen, hek, rfl⟩
 ·obtain ⟨hf, _⟩ := hspec.resolve_right (fun ⟨j, e, _, h6, h7⟩ => hne e (hp.mem_iff.2 (List.mem_of_getElem? h6)) h7)
  refine key (es.push { key := a.eval k, val := a.eval x, born := clock }) (clock + 1) (l ++ [{ key := a.eval k, val := a.eval x, born := clock }]) ?_ (by rw [Array.toList_push]; exact hp.append_right _) (by simp [hl]) (Go.MapKept.stamped_push hst (fun x hx => hne x (hp.mem_iff.2 hx))) (fun x hx => ?_) (fun i row hi => ?_)
  ·rw [hx']
   simp [Instr.mapUpdate, run_underlying ht.und, Go.MapKept.run_getObj_map hh, Go.MapKept.run_checkKey htk.und hkey', Go.MapKept.run_findKey htk.und hf, Go.MapKept.run_setObj_map _ hh, Result.andThen]
  ·rcases List.mem_append.1 hx with hx | hx
   ·exact hiskey x hx
   ·rw [List.mem_singleton.1 hx]; exact hkey'
  ·rcases Nat.lt_trichotomy i rows.length with hlt | he | hgt
   ·rw [List.getElem?_append_left hlt] at hi
    obtain ⟨en, us, vs2, h10, _⟩ := hent i row hi
    exact .inr ⟨en, by rw [List.getElem?_append_left (by omega)]; exact h10, h10, hi⟩
   ·subst he
    rw [List.getElem?_append_right (by omega)] at hi
    simp only [Nat.sub_self, List.getElem?_cons_zero, Option.some.injEq] at hi
    exact .inl ⟨{ key := a.eval k, val := a.eval x, born := clock }, by rw [hl, List.getElem?_append_right (Nat.le_refl _)]; simp, rfl, rfl, hi.symm⟩
   ·rw [List.getElem?_eq_none (by simp; omega)] at hi; cases hi
 ·have hmem : en ∈ es.toList := hp.mem_iff.1 (List.mem_of_getElem? hen)
  obtain ⟨i0, e', hf, he1, he2⟩ := hspec.resolve_left (fun hno => hno.2 en hmem hek)
  obtain rfl : e' = en := Zwp hst.2.2 (List.mem_of_getElem? he1) hmem (he2.trans hek.symm)
  simp only [Nat.zero_add] at hf
  have hen' : es[i0]? = some e' := by simpa using he1
  let q : MapEntry → Bool := fun x => Instr.sameNow dk' (a.eval k) x.key == some true
  have hq : ∀ x ∈ l, (q x = true ↔ x.key = a.eval k) := fun x hx => by
   obtain ⟨r, h9, h10⟩ := Go.MapKept.sameNow_of_keys hkey' (hiskey x hx)
   simp only [q, h9, beq_iff_eq, Option.some.injEq]
   rw [h10]; exact ⟨fun h => h.symm, fun h => h.symm⟩
  have hndl : (l.map (·.key)).Nodup := (hp.map _).nodup_iff.2 hst.2.2
  have hset := Zwn (f := fun e => { e with key := a.eval k, val := a.eval x }) hndl hq hen hek
  have hset2 := Zwn (f := fun e => { e with key := a.eval k, val := a.eval x }) hst.2.2 (fun x hx => hq x (hp.mem_iff.2 hx)) he1 he2
  have hmod : (es.modify i0 fun e => { e with key := a.eval k, val := a.eval x }).toList = es.toList.set i0 { e' with key := a.eval k, val := a.eval x } := by
   apply List.ext_getElem?
   intro i
   rw [Array.getElem?_toList, Array.getElem?_modify, List.getElem?_set]
   by_cases hi : i0 = i
   ·subst hi
    rw [if_pos rfl, if_pos rfl, hen']
    have : i0 < es.toList.length := by simpa using (Array.getElem?_eq_some_iff.1 hen').1
    rw [if_pos this]; rfl
   ·rw [if_neg hi, if_neg hi, Array.getElem?_toList]
  refine key (es.modify i0 fun e => { e with key := a.eval k, val := a.eval x }) clock (l.set j { e' with key := a.eval k, val := a.eval x }) ?_ ?_ (by simp [hl]) (Go.MapKept.stamped_modify hst _ _ (fun _ _ => rfl) (fun e1 _ he9 => by rw [hen'] at he9; injection he9 with he9; subst he9; exact hek.symm)) (fun x hx => ?_) (fun i row hi => ?_)
  ·rw [hx']
   simp [Instr.mapUpdate, run_underlying ht.und, Go.MapKept.run_getObj_map hh, Go.MapKept.run_checkKey htk.und hkey', Go.MapKept.run_findKey htk.und hf, Go.MapKept.run_setObj_map _ hh, Result.andThen, hen', hek, Go.MapKept.run_keyThatStays hkey']
  ·rw [hmod, hset, hset2]; exact hp.map _
  ·rcases List.mem_or_eq_of_mem_set hx with hx | rfl
   ·exact hiskey x hx
   ·exact hkey'
  ·by_cases he : i = j
   ·subst he
    have hlt : i < rows.length := by rw [hl]; exact (List.getElem?_eq_some_iff.1 hen).1
    rw [List.getElem?_set_self hlt] at hi
    injection hi with hi
    exact .inl ⟨_, by rw [List.getElem?_set_self (by omega)], rfl, rfl, hi.symm⟩
   ·rw [List.getElem?_set_ne (fun e => he e.symm)] at hi
    obtain ⟨en2, us, vs2, h10, _⟩ := hent i row hi
    exact .inr ⟨en2, by rw [List.getElem?_set_ne (fun e => he e.symm)]; exact h10, h10, hi⟩
include hL in
theorem Zw8 (h : Zcv P nt df w0 M0 S0 ρ0 S a w) {o : Oper} {t n code u v : Nat} {x : Operand} {tk : Option (Nat × Nat)} {rows : List (List E)} (ho : o.op = .call { callee := .builtin .clear, args := #[x], argTypes := #[t] }) (hmt : (L.ti t).k = .map u v) (hx : S.ev x = .c tk (.rf n))
  (hb : S.box n = some [(none, .ob code rows)]) (hcode : code = 2 * t + 1) (hd : Zgn nt o.dst = true) {next : Act → World → Prop} {Q : Exit → Act → World → Prop}
  (hnext : ∀ a' w', Zcv P nt df w0 M0 S0 ρ0 ((S.setBox n [(none, .ob code [])]).putO o.dst (.tup [])) a' w' → next a' w') : o.wp P a w next Q := by
 obtain ⟨hd1, hd2, St, ρ, h3, h4⟩ := h
 subst hcode
 obtain ⟨d, ti, ht⟩ := hL.ty (t := t) (.inl (ZaD hmt (by simp)))
 obtain rfl := Zs2 (ht.k.symm.trans hmt)
 obtain ⟨kt', vt', dk, es, clock, l, hu, hud, hh, hp, hl, hent, hst, hik⟩ := Zvb h3 (by rw [ht.und]; simp) hb
 have hu2 := hu.symm.trans ht.und
 simp only [Option.some.injEq, TypeDesc.map.injEq] at hu2
 obtain ⟨e1, e2⟩ := hu2
 subst kt' vt'
 have hx' : a.eval x = .map (some (ρ n)) := by have := ZbL h3 x; rw [hx] at this; exact Zxz this
 have hrun : (execOp a.eval o).run P w = .ok (.value (.tuple #[])) { w with heap := w.heap.setIfInBounds (ρ n) (.map #[] clock) } := by
  simp [execOp, ho, resolve, invoke, builtin, Builtin.clear_, run_underlying ht.und, hx', Go.MapKept.run_getObj_map hh, Go.MapKept.run_setObj_map _ hh, Result.andThen]
 unfold Oper.wp
 rw [hrun, Oper.upon_value]
 have hpos : 0 < ρ (CAP + n) := by
  rcases h3.box n _ hb with ⟨_, k', he⟩ | ⟨h0, _⟩
  ·simp only [List.cons.injEq, Prod.mk.injEq, E.ob.injEq] at he; omega
  ·exact h0
 have h5 : Zcv P nt df w0 M0 S0 ρ0 (S.setBox n [(none, .ob (2 * t + 1) [])]) a { w with heap := w.heap.setIfInBounds (ρ n) (.map #[] clock) } :=
  ⟨hd1, hd2, St, ρ, h3.storeObj hb hpos (fun j t k e => by cases j <;> simp) (fun hoth hlat => .map t u v dk [] #[] clock [] ht.und hud (Go.MapKept.heap_set hh).1 (.refl _) rfl (fun i row hi => by simp at hi) (Go.MapKept.stamped_empty _) (by simp)) rfl rfl rfl (by simp) (fun b hb' => (Go.MapKept.heap_set hh).2 b hb'), h4⟩
 exact hnext _ _ (ZpU h5 hd (fun St ρ h3 => ⟨⟨[], rfl, rfl, fun k x hk => by simp at hk⟩, fun t k e he => by cases he⟩))
end

section
variable {P : Program} [Gl P] {w0 : World} {M0 : Nat → Prop} {S0 : ZaA} {L : Tab} (hL : TOk P L) {nt : Nat} {ρ0 : Nat → Nat} {df : List Deferred} {S : AS} {a : Act} {w : World} {St : ZaA} {ρ : Nat → Nat} {tm : Array Value}
theorem ZQ.reObj (h : ZQ P w0 M0 S0 S tm w St ρ) {n d b c : Nat} {cs : List Cell} {D0 : D} {v : Value} (hn : n < CAP) (hi : d < tm.size) (hge : w0.heap.size ≤ b ∨ M0 b) (hSt : ∀ o, ¬ St b o)
  (hfresh : ∀ m ds, m ≠ n → S.box m = some ds → 0 < ρ (CAP + m) → ρ m ≠ b) (hown : ∀ t k e v, Zcm S tm w ρ t k e v → v.ownBlock ≠ some b) (hc : 0 < c)
  (hat : ∀ ρ', ρ' = ZhU ρ n b c → Zf4 P w St ρ' n cs) (hd : ∀ ρ', ρ' = ZhU ρ n b c → Zet w St ρ' D0 v) (hdt : ∀ tk e, D0 ≠ .c (some tk) e)
  (htok : ∀ (j t k : Nat) (e : E), cs[j]? ≠ some (some (t, k), e)) :
  ZQ P w0 M0 S0 (((S.kill n).setBox n cs).put d D0) (tm.setIfInBounds d v) w St (ZhU ρ n b c) := by
 have h1 := h.kill hn b c
 have hturn := Zun n h.nm
 have hheld : ∀ {t k : Nat} {e : E} {v : Value}, Zcm (S.kill n) tm w (ZhU ρ n b c) t k e v → v.ownBlock ≠ some b := fun {t k e v} hh => by
  rcases hh with ⟨i, hi, hv⟩ | ⟨m, ds, j, hb', hj, hv⟩
  ·rw [ZkO] at hi
   cases hg : S.get i with
   | c tk e0 =>
    rw [hg] at hi
    cases tk with
    | none => simp [D.ren] at hi
    | some q =>
     obtain ⟨t1, k1⟩ := q
     simp only [D.ren, D.c.injEq, Option.some.injEq, Prod.mk.injEq] at hi
     exact hown t1 k1 e0 v (.inl ⟨i, hg, hv⟩)
   | ptr m off => rw [hg] at hi; simp only [D.ren] at hi; cases hb : but n m <;> rw [hb] at hi <;> cases hi
   | ept m sz i off => rw [hg] at hi; simp only [D.ren] at hi; cases hb : but n m <;> rw [hb] at hi <;> cases hi
   | _ => rw [hg] at hi; simp [D.ren] at hi
  ·rw [ZiB] at hb'
   split at hb'
   ·cases hb'
   ·rename_i hne
    obtain ⟨ds0, hds0, rfl⟩ := Option.map_eq_some_iff.1 hb'
    obtain ⟨e0, hj0, _⟩ := Zmf hj
    have hmc := h.nm m ds0 hds0
    rw [ZoP hne hmc] at hv
    exact hown t k e0 v (.inr ⟨m, ds0, j, hds0, hj0, hv⟩)
 have h3 := h1.setBox (n := n) (cs := cs) (by rw [ZiB]; simp) hn (by rw [Zhy]; exact hge) (fun o hs => by rw [Zhy] at hs; exact hSt o hs)
  (fun m ds hm hp => by
   rw [ZiB] at hm
   split at hm
   ·cases hm
   ·rename_i hne
    obtain ⟨ds0, hds0, rfl⟩ := Option.map_eq_some_iff.1 hm
    have hmc := h.nm m ds0 hds0
    rw [ZnW hne hn] at hp
    rw [ZoP hne hmc, Zhy]
    exact hfresh m ds0 hne hds0 hp)
  (fun t k e v hh => by rw [Zhy]; exact hheld hh) (by rw [ZiU hn]; exact hc) (hat _ rfl) (fun j t k e u hj => absurd hj (htok j t k e))
 exact h3.put hi (hd _ rfl) (fun _ _ _ he => absurd he (hdt _ _))
theorem Zxc (h : ZQ P w0 M0 S0 S tm w St ρ) {n e : Nat} {rows : List (List E)} (hb : S.box n = some [(none, .ob (2 * e) rows)]) :
  (ρ (CAP + n) = 0 ∧ rows = []) ∨ (0 < ρ (CAP + n) ∧ (w0.heap.size ≤ ρ n ∨ M0 (ρ n)) ∧ (∀ o, ¬ St (ρ n) o) ∧ ∃ cur, w.heap[ρ n]? = some (.cells cur e (0, 0)) ∧ rows.length ≤ ρ (CAP + n) ∧ ρ (CAP + n) ≤ maxLen ∧ cur.size = ρ (CAP + n) * P.cellsOf e ∧
   (∀ (i : Nat) (row : List E), rows[i]? = some row → row.length = P.cellsOf e) ∧ (∀ (i j : Nat) (row : List E) (x : E), rows[i]? = some row → row[j]? = some x → ∃ u, cur[i * P.cellsOf e + j]? = some u ∧ Zdo w St x u)) := by
 rcases h.box n _ hb with ⟨h1, k, h2⟩ | ⟨h0, h1, h2, h3⟩
 ·simp only [List.cons.injEq, Prod.mk.injEq, E.ob.injEq, true_and, and_true] at h2
  exact .inl ⟨h1, h2.2⟩
 ·refine .inr ⟨h0, h1, h2, ?_⟩
  generalize hcs : ([(none, .ob (2 * e) rows)] : List Cell) = cs at h3
  cases h3 with
  | cells _ arr t g1 g2 g3 =>
   subst hcs
   obtain ⟨u, _, hr⟩ := g3 0 _ rfl
   cases hr with
   | e _ _ hr => cases hr
  | row k rows' cur g1 g2 g3 g4 g5 g6 =>
   simp only [List.cons.injEq, Prod.mk.injEq, E.ob.injEq, true_and, and_true] at hcs
   obtain ⟨hk, hr⟩ := hcs
   have hk : k = e := by omega
   subst hk hr
   exact ⟨cur, g1, g2, g3, g4, g5, g6⟩
  | map t _ _ _ rows' =>
   simp only [List.cons.injEq, Prod.mk.injEq, E.ob.injEq, true_and, and_true] at hcs
   omega
  | iter s pos =>
   simp only [List.cons.injEq, Prod.mk.injEq, E.ob.injEq, true_and, and_true] at hcs
   omega
theorem Zxl {α : Type} (n : Nat) (x : α) : ∀ l : List (Nat × α), del n (ins n x l) = del n l
 | [] => by simp [ins, del]
 | (j, y) :: l => by
  simp only [ins]
  by_cases h : n = j
  ·subst h; simp [del]
  ·simp [del, h, Zxl n x l]
theorem ZvB (S : AS) (n : Nat) (cs : List Cell) : (S.setBox n cs).kill n = S.kill n := by
 simp only [AS.kill, AS.setBox, Zxl]
theorem ZQ.setNil (h : ZQ P w0 M0 S0 S tm w St ρ) {n k : Nat} (hn : S.box n = none) (hc : n < CAP) (hp : ρ (CAP + n) = 0) : ZQ P w0 M0 S0 (S.setBox n [(none, .ob (2 * k) [])]) tm w St ρ := by
 have hno : ∀ {j t k' : Nat} {e : E}, ([(none, .ob (2 * k) [])] : List Cell)[j]? = some (some (t, k'), e) → False := fun {j t k' e} hj => by
  cases j with
  | zero => simp at hj
  | succ j => simp at hj
 have hheld : ∀ {t k' : Nat} {e : E} {v : Value}, Zcm (S.setBox n [(none, .ob (2 * k) [])]) tm w ρ t k' e v → Zcm S tm w ρ t k' e v := fun hh => by
  rcases hh with ⟨i, hi, hv⟩ | ⟨m, ds, j, hb', hj, hv⟩
  ·exact .inl ⟨i, hi, hv⟩
  ·rw [ZbN] at hb'
   split at hb'
   ·injection hb' with hb'; subst hb'; exact (hno hj).elim
   ·exact .inr ⟨m, ds, j, hb', hj, hv⟩
 exact { glob := h.glob, os := h.os, tape := h.tape, output := h.output, size := h.size, old := h.old, stay := h.stay, up := h.up, dn := h.dn, lt := h.lt, tmp := h.tmp
         nm := fun m ds hm => by
           rw [ZbN] at hm
           split at hm
           · rename_i he; rw [he]; exact hc
           · exact h.nm m ds hm
         box := fun m ds hm => by
           rw [ZbN] at hm
           split at hm
           · rename_i he; subst he; injection hm with hm; subst hm; exact .inl ⟨hp, k, rfl⟩
           · exact h.box m ds hm
         inj := fun m m' ds es hm hm' hne hp1 hp2 => by
           rw [ZbN] at hm hm'
           split at hm
           · rename_i he; subst he; omega
           · split at hm'
             · rename_i he; subst he; omega
             · exact h.inj m m' ds es hm hm' hne hp1 hp2
         own := fun t k e v hh => h.own t k e v (hheld hh)
         apart := fun t k e v t' k' e' v' hh hh' => h.apart t k e v t' k' e' v' (hheld hh) (hheld hh')
         ownbox := fun t k e v m ds hh hm hp1 => by
           rw [ZbN] at hm
           split at hm
           · rename_i he; subst he; omega
           · exact h.ownbox t k e v m ds (hheld hh) hm hp1 }
theorem ZtI {ρ0 ρ : Nat → Nat} {n b c : Nat} (h : ∀ m, EXT ≤ m → m < NEW → ρ m = ρ0 m ∧ ρ (CAP + m) = ρ0 (CAP + m)) (hn : ZlL n = false) (hc : n < CAP) :
  ∀ m, EXT ≤ m → m < NEW → ZhU ρ n b c m = ρ0 m ∧ ZhU ρ n b c (CAP + m) = ρ0 (CAP + m) := fun m h1 h2 => by
 have hne : m ≠ n := by
  rintro rfl
  have : ZlL m = true := by unfold ZlL; rw [Bool.and_eq_true]; exact ⟨Nat.ble_eq ▸ h1, Nat.blt_eq ▸ h2⟩
  rw [this] at hn; cases hn
 rw [ZoP hne (by unfold CAP NEW at *; omega), ZnW hne hc]
 exact h m h1 h2
theorem Zht {rows : List (List E)} {l i : Nat} {row : List E} (h : (rows.take l)[i]? = some row) : rows[i]? = some row ∧ i < l := by
 rw [List.getElem?_take] at h
 split at h
 ·exact ⟨h, by assumption⟩
 ·cases h
include hL in
theorem ZtV (h : Zcv P nt df w0 M0 S0 ρ0 S a w) {o : Oper} {t : Nat} {s x : Operand} (ho : o.op = .call { callee := .builtin .append, args := #[s, x], argTypes := #[t, t] }) {d n l e : Nat} {tk : Option (Nat × Nat)} {rows new new' : List (List E)}
  (hdst : o.dst = some d) (hty : (L.ti t).k = .slice e) (hse : S.ev s = .c tk (.rs n l)) (hb : S.box n = some [(none, .ob (2 * e) rows)]) (hnew : (S.ev x).rows? = some new) (hd : d < nt) (hext : ZlL n = false)
  (hsz0 : 0 < (L.ti e).size) (hz : (L.ti e).zero.map (·.length) = some (L.ti e).size) (hl : l ≤ rows.length) (hnrow : ∀ row ∈ new, row.length = (L.ti e).size) (hmax : l + new.length ≤ maxLen) (hby : (l + new.length) * (L.ti e).bytes ≤ 140737488355328)
  (hwe : WE (.sl new) (.sl new')) {next : Act → World → Prop} {Q : Exit → Act → World → Prop}
  (hnext : ∀ a' w', Zcv P nt df w0 M0 S0 ρ0 (((S.kill n).setBox n [(none, .ob (2 * e) (rows.take l ++ new'))]).put d (.c none (.rs n (l + new.length)))) a' w' → next a' w') : o.wp P a w next Q := by
 obtain ⟨hdef, hsize, St, ρ, h3, h4⟩ := h
 have hcap : n < CAP := h3.nm n _ hb
 obtain ⟨dd, ti, ht⟩ := hL.ty (t := t) (.inl (ZaD hty (by simp)))
 obtain rfl := ZeP (ht.k.symm.trans hty)
 obtain ⟨d2, ti2, ht2⟩ := hL.ty (t := e) (.inr (by omega))
 obtain ⟨z, hz1, hz2⟩ := Option.map_eq_some_iff.1 hz
 obtain ⟨u, hu, _, rfl⟩ := ht2.zero z hz1
 have hzs : u.cells.size = (L.ti e).size := by simpa using hz2
 have hcells : P.cellsOf e = (L.ti e).size := by unfold Program.cellsOf; rw [ht2.info]; exact ht2.size.symm
 have hs := ZbL h3 s
 rw [hse] at hs
 have hs : Zca w St ρ (.rs n l) (a.eval s) := hs
 have hxr := ZbL h3 x
 obtain ⟨new2, hn2, hlen, hrow2⟩ := hwe.inv
 injection hn2 with hn2
 subst hn2
 have hnrow' : ∀ row ∈ new', row.length = (L.ti e).size := fun row hr => by
  obtain ⟨i, hi⟩ := List.getElem?_of_mem hr
  obtain ⟨r0, hr0⟩ : ∃ r0, new[i]? = some r0 := ⟨_, List.getElem?_eq_getElem (by rw [hlen]; exact (List.getElem?_eq_some_iff.1 hi).1)⟩
  rw [← (hrow2 i r0 row hr0 hi).1]
  exact hnrow r0 (List.mem_of_getElem? hr0)
 have hrun : ∀ {v' w'}, (Builtin.append_ #[t, t] o.type #[a.eval s, a.eval x]).run P w = .ok v' w' → (execOp a.eval o).run P w = .ok (.value v') w' := fun {v' w'} hr => by
  simp only [execOp, ho, resolve, invoke, builtin, Sem.run_bind, Sem.run_pure, Result.andThen_ok, List.map_toArray, List.map_cons, List.map_nil, hr]
 have hnotok : ∀ (rs : List (List E)) (j t k : Nat) (e' : E), ([(none, .ob (2 * e) rs)] : List Cell)[j]? ≠ some (some (t, k), e') := fun rs j t k e' hj => by
  cases j with
  | zero => simp at hj
  | succ j => simp at hj
 have hob := Zxc h3 hb
 have hold : (a.eval s = .slice none 0 0 ∧ l = 0) ∨ ∃ A cap, a.eval s = .slice (some A) l cap ∧ l ≤ cap ∧ cap ≤ maxLen ∧ ((cap = 0) ∨ (0 < cap ∧ A = ⟨ρ n, 0, none⟩ ∧ cap = ρ (CAP + n))) := by
  generalize a.eval s = y at hs
  cases hs with
  | e _ _ hs => cases hs
  | rs0 _ A h0 => cases A with
   | none => exact .inl ⟨rfl, rfl⟩
   | some A => exact .inr ⟨A, 0, rfl, Nat.le_refl _, Nat.zero_le _, .inl rfl⟩
  | rs _ _ h0 h1 h2 => exact .inr ⟨_, _, rfl, h1, h2, .inr ⟨h0, rfl, rfl⟩⟩
 have hrs : ∀ {ρ' : Nat → Nat} {m : Nat}, 0 < ρ' (CAP + n) → m ≤ ρ' (CAP + n) → ρ' (CAP + n) ≤ maxLen → Zet w St ρ' (.c none (.rs n m)) (.slice (some ⟨ρ' n, 0, none⟩) m (ρ' (CAP + n))) := fun h1 h2 h3 => .rs n _ h1 h2 h3
 by_cases hm0 : new = []
 ·subst hm0
  have hx0 : ∃ A c, a.eval x = .slice A 0 c := by
   obtain ⟨A, m, c, hx, hm, _⟩ := ZnJ hxr hnew
   exact ⟨A, c, by rw [hx]; simp at hm; rw [← hm]⟩
  obtain ⟨A, c, hx⟩ := hx0
  have hn0 : new' = [] := List.length_eq_zero_iff.1 (by rw [← hlen]; rfl)
  subst hn0
  have hr0 : (Builtin.append_ #[t, t] o.type #[a.eval s, a.eval x]).run P w = .ok (a.eval s) w := by
   rcases hold with ⟨hsv, _⟩ | ⟨g, cap, hsv, hc, _⟩
   ·rw [hsv, hx]
    cases A <;> simp [Builtin.append_, run_underlying ht.und, ZbX ht2, Builtin.lenOf, Builtin.firstCells, loadCells, loadCellsFrom]
   ·rw [hsv, hx]
    cases A <;> simp [Builtin.append_, run_underlying ht.und, ZbX ht2, Builtin.lenOf, Builtin.firstCells, loadCells, loadCellsFrom, hc, storeCells]
  unfold Oper.wp
  rw [hrun hr0, Oper.upon_value, hdst]
  rw [List.append_nil, List.length_nil, Nat.add_zero] at hnext
  refine hnext _ _ ⟨hdef, by rw [ZeQ]; exact hsize, St, ZhU ρ n (ρ n) (ρ (CAP + n)), ?_, ZtI h4 hext hcap⟩
  have hlead : ZhU ρ n (ρ n) (ρ (CAP + n)) = ρ := by
   funext m; unfold ZhU; split
   ·rename_i he; rw [he]
   ·split
    ·rename_i he; rw [he]
    ·rfl
  rcases hob with ⟨h0, hr⟩ | ⟨h0, hge, hSt, cur, hcur, hle, hcm, hcs, hrl, hre⟩
  ·subst hr
   simp only [List.take_nil]
   have h5 := (h3.kill hcap (ρ n) (ρ (CAP + n))).setNil (n := n) (k := e) (by rw [ZiB]; simp) hcap (by rw [hlead]; exact h0)
   refine h5.put (by rw [hsize]; exact hd) ?_ (fun _ _ _ he => by cases he)
   rw [hlead]; exact hs
  ·refine h3.reObj hcap (by rw [hsize]; exact hd) hge hSt (fun m ds hne hm hp => h3.inj m n ds _ hm hb hne hp h0) (fun t k e v hh => h3.ownbox t k e v n _ hh hb h0) h0 (fun ρ' hρ => ?_) (fun ρ' hρ => ?_) (fun _ _ he => by cases he) (hnotok _)
   ·rw [hlead] at hρ; subst hρ
    exact .row e (rows.take l) cur hcur (Nat.le_trans (by simp; omega) hle) hcm hcs (fun i row hi => hrl i row (Zht hi).1) (fun i j row e hi hj => hre i j row e (Zht hi).1 hj)
   ·rw [hlead] at hρ; subst hρ; exact hs
 ·have hm1 : 0 < new.length := List.length_pos_iff.2 hm0
  have hnewrep : Zdo w St (.sl new') (a.eval x) := by
   refine Zdo.weak hwe ?_
   cases hx : S.ev x with
   | c tk' e' =>
    rw [hx] at hnew hxr
    cases e' with
    | sl r => simp only [D.rows?, Option.some.injEq] at hnew; subst hnew; exact Zca.plain hxr rfl
    | nils => simp only [D.rows?, Option.some.injEq] at hnew; exact absurd hnew.symm hm0
    | _ => simp [D.rows?] at hnew
   | _ => rw [hx] at hnew; simp [D.rows?] at hnew
  obtain ⟨A, c, hx⟩ : ∃ A c, a.eval x = .slice A new.length c := by
   obtain ⟨A, m, c, hx, hm, _⟩ := ZnJ hxr hnew
   exact ⟨A, c, by rw [hx, hm]⟩
  rw [hx] at hnewrep
  obtain ⟨b, oo, rfl, news, hnl, hnc, hn1, hnr⟩ := ZxO hnewrep hnrow' hsz0 hm1
  have hby' : (l + new.length) * ti2.bytes ≤ 140737488355328 := by rw [← ht2.bytes]; exact hby
  have hsz2 : ti2.size = (L.ti e).size := ht2.size.symm
  have hcell0 : ∀ {g : Nat} {cur : Array Value} {k : TypeId} {fr : Nat × Nat} (w2 : World), w2.heap[g]? = some (.cells cur k fr) → ∀ o, w2.cell? ⟨g, o, none⟩ = cur[o]? := fun w2 hg o => by simp [World.cell?, hg]
  have hrowlen : ∀ (i : Nat) (row : List E), rows[i]? = some row → row.length = (L.ti e).size := fun i row hi => by
   rcases hob with ⟨_, hr⟩ | ⟨_, _, _, _, _, _, _, _, hrl, _⟩
   ·subst hr; simp at hi
   ·rw [hrl i row hi, hcells]
  have hlt0 : (rows.take l).length = l := by rw [List.length_take]; omega
  have hrows' : ∀ (i : Nat) (row : List E), (rows.take l ++ new')[i]? = some row → row.length = P.cellsOf e := fun i row hi => by
   rw [hcells]
   by_cases hlt : i < l
   ·rw [List.getElem?_append_left (by omega)] at hi
    exact hrowlen i row (Zht hi).1
   ·rw [List.getElem?_append_right (by omega)] at hi
    exact hnrow' row (List.mem_of_getElem? hi)
  have fin : ∀ (cap' : Nat) (olds : List Value), olds.length = l * (L.ti e).size → l + new.length ≤ cap' → cap' ≤ maxLen →
    (∀ (i j : Nat) (row : List E) (e' : E), (rows.take l)[i]? = some row → row[j]? = some e' → ∃ u, olds[i * (L.ti e).size + j]? = some u ∧ Zdo w St e' u) →
    (Builtin.append_ #[t, t] o.type #[a.eval s, a.eval x]).run P w = .ok (.slice (some ⟨w.heap.size, 0, none⟩) (l + new.length) cap')
     (w.drew.alloc (.cells (olds.toArray ++ news.toArray ++ Builtin.zeroCells u.cells (cap' - (l + new.length))) e)) → o.wp P a w next Q := by
   intro cap' olds hol hcap' hcm holds hr
   unfold Oper.wp
   rw [hrun hr, Oper.upon_value, hdst]
   refine hnext _ _ ⟨hdef, by rw [ZeQ]; exact hsize, St, ZhU ρ n w.heap.size cap', ?_, ZtI h4 hext hcap⟩
   have h5 : ZQ P w0 M0 S0 S a.tmps (w.drew.alloc (.cells (olds.toArray ++ news.toArray ++ Builtin.zeroCells u.cells (cap' - (l + new.length))) e)) St ρ :=
    h3.grow rfl rfl rfl (by simp) (fun b hb => heap_alloc_old w.drew _ b hb) (fun _ _ hs => hs) (fun _ _ hs => .inl hs)
   have hg : (w.drew.alloc (.cells (olds.toArray ++ news.toArray ++ Builtin.zeroCells u.cells (cap' - (l + new.length))) e)).heap[w.heap.size]? =
     some (.cells (olds.toArray ++ news.toArray ++ Builtin.zeroCells u.cells (cap' - (l + new.length))) e (0, 0)) := heap_alloc_new w.drew _
   have hlat : Zg8 w (w.drew.alloc (.cells (olds.toArray ++ news.toArray ++ Builtin.zeroCells u.cells (cap' - (l + new.length))) e)) St St :=
    ⟨fun _ _ hs => hs, fun b o hs => World.cell?_of_block (a := ⟨b, o, none⟩) (heap_alloc_old w.drew _ b (h3.lt b o hs))⟩
   refine h5.reObj hcap (by rw [hsize]; exact hd) (.inl h3.size) (fun o hs => absurd (h3.lt _ _ hs) (by omega)) (fun m ds hne hm hp => by have := (h3.blk hm hp).1; omega)
    (fun t k e v hh hb => by
     have := (Zog (h3.own t k e v (Zjq (fun m cs' j t k e hm hj => heap_alloc_old w.drew _ _ (h3.blk hm (h3.tokp hm hj)).1) hh)) _ hb).1
     omega) (by omega) (fun ρ' hρ => ?_) (fun ρ' hρ => ?_) (fun _ _ he => by cases he) (hnotok _)
   ·subst hρ
    refine .row e _ _ (by rw [Zhy]; exact hg) (by rw [ZiU hcap, List.length_append, hlt0, ← hlen]; exact hcap') (by rw [ZiU hcap]; exact hcm) ?_ hrows' (fun i j row e' hi hj => ?_)
    ·rw [ZiU hcap, hcells]
     simp only [Array.size_append, List.size_toArray, size_zeroCells, hzs, hol, hnl, ← Nat.add_mul]
     congr 1; omega
    ·rw [hcells]
     by_cases hlt : i < l
     ·rw [List.getElem?_append_left (by omega)] at hi
      obtain ⟨y, hy, hyr⟩ := holds i j row e' hi hj
      refine ⟨y, ?_, hyr.later hlat⟩
      have hylt : i * (L.ti e).size + j < olds.length := (List.getElem?_eq_some_iff.1 hy).1
      rw [Array.append_assoc, Array.getElem?_append_left (by simpa using hylt)]
      simpa using hy
     ·rw [List.getElem?_append_right (by omega), hlt0] at hi
      obtain ⟨y, hy, hyr⟩ := hnr _ j row e' hi hj
      refine ⟨y, ?_, hyr.later hlat⟩
      have hylt : (i - l) * (L.ti e).size + j < news.length := (List.getElem?_eq_some_iff.1 hy).1
      have hidx : i * (L.ti e).size + j = olds.length + ((i - l) * (L.ti e).size + j) := by
       rw [hol, ← Nat.add_assoc, ← Nat.add_mul]; congr 2; omega
      rw [Array.append_assoc, Array.getElem?_append_right (by simp; omega), Array.getElem?_append_left (by simp; omega)]
      simp only [List.size_toArray, hidx, Nat.add_sub_cancel_left]
      simpa using hy
   ·subst hρ
    have := Zca.rs (w := w.drew.alloc (.cells (olds.toArray ++ news.toArray ++ Builtin.zeroCells u.cells (cap' - (l + new.length))) e)) (St := St) (ρ := ZhU ρ n w.heap.size cap') n (l + new.length) (by rw [ZiU hcap]; omega) (by rw [ZiU hcap]; exact hcap') (by rw [ZiU hcap]; exact hcm)
    rw [Zhy, ZiU hcap] at this
    exact this
  rcases hold with ⟨hsv, hl0⟩ | ⟨A, cap, hsv, hlc, hcm, hA⟩
  ·subst hl0
   have hr1 := run_append_nil (P := P) w t o.type e ti2 u ht.und ht2.info hu ⟨b, oo, none⟩ new.length c news (by rw [hsz2, hnl, hlen]) hnc hm1 (by simp only [maxLen] at hmax; omega) (by simp at hby'; omega)
   refine fin (grownCap w new.length 0 e) [] (by simp) (by simp; exact grownCap_ge w _ _ _) (grownCap_le_maxLen w _ _ _ (by simpa using hmax)) (fun i j row e' hi => by simp at hi) ?_
   rw [hsv, hx]
   simpa using hr1
  ·rcases hA with hc0 | ⟨hc0, rfl, hcc⟩
   ·subst hc0
    have hl0 : l = 0 := by omega
    subst hl0
    have hr1 := run_append_grow (P := P) w t o.type e ti2 u ht.und ht2.info hu A 0 0 [] (by simp) (fun j v hj => by simp at hj)
     ⟨b, oo, none⟩ new.length c news (by rw [hsz2, hnl, hlen]) hnc (by omega) (by simp only [maxLen] at hmax; omega) (growslice_fits (by omega) hby')
    refine fin (grownCap w (0 + new.length) 0 e) [] (by simp) (grownCap_ge w _ _ _) (grownCap_le_maxLen w _ _ _ hmax) (fun i j row e' hi => by simp at hi) ?_
    rw [hsv, hx]
    exact hr1
   ·rcases hob with ⟨h0, _⟩ | ⟨h0, hge, hSt, cur, hcur, hle, hcm2, hcs, hrl, hre⟩
    ·omega
    ·rw [hcells] at hcs
     have hcle : l * (L.ti e).size ≤ cur.size := by rw [hcs, ← hcc]; exact Nat.mul_le_mul_right _ hlc
     have hjlt : ∀ {i j : Nat} {row : List E} {e' : E}, (rows.take l)[i]? = some row → row[j]? = some e' → i * (L.ti e).size + j < l * (L.ti e).size := fun {i j row e'} hi hj => by
      have hjl : j < (L.ti e).size := by
       rw [← hrowlen i row (Zht hi).1]
       exact (List.getElem?_eq_some_iff.1 hj).1
      have h13 : (i + 1) * (L.ti e).size ≤ l * (L.ti e).size := Nat.mul_le_mul_right _ (Zht hi).2
      rw [Nat.add_mul] at h13
      omega
     by_cases hroom : l + new.length ≤ cap
     ·have hnl2 : news.length = new.length * (L.ti e).size := by rw [hnl, hlen]
      have hfit : l * (L.ti e).size + news.length ≤ cur.size := by rw [hnl2, hcs, ← hcc, ← Nat.add_mul]; exact Nat.mul_le_mul_right _ hroom
      have hr1 := run_append_room (P := P) w t o.type e ti2 ht.und ht2.info (ρ n) l cap cur hcur ⟨b, oo, none⟩ new.length c news (by rw [hsz2]; exact hnl2) hnc hn1 hroom (by rw [hsz2]; exact hfit)
      rw [hsz2] at hr1
      have hr2 := hr1
      rw [← hsv, ← hx] at hr2
      unfold Oper.wp
      rw [hrun hr2, Oper.upon_value, hdst]
      have hg := setRow_heap w (ρ n) cur (cur.toList.take (l * (L.ti e).size) ++ news ++ cur.toList.drop (l * (L.ti e).size + news.length)).toArray e (0, 0) hcur
      have hget : ∀ k, (cur.toList.take (l * (L.ti e).size) ++ news ++ cur.toList.drop (l * (L.ti e).size + news.length)).toArray[k]? =
        if l * (L.ti e).size ≤ k ∧ k < l * (L.ti e).size + news.length then news[k - l * (L.ti e).size]? else cur[k]? := fun k => by
       have := Zjf cur.toList news (l * (L.ti e).size) k (by have e : cur.toList.length = cur.size := Array.length_toList; omega)
       rw [List.getElem?_toArray, this]; simp only [Array.getElem?_toList]
      refine hnext _ _ ⟨hdef, by rw [ZeQ]; exact hsize, St, ZhU ρ n (ρ n) (ρ (CAP + n)), ?_, ZtI h4 hext hcap⟩
      have hlead : ZhU ρ n (ρ n) (ρ (CAP + n)) = ρ := by
       funext m; unfold ZhU; split
       ·rename_i he; rw [he]
       ·split
        ·rename_i he; rw [he]
        ·rfl
      have hbox : ∀ (w' : World), Zg8 w w' St St → w'.heap[ρ n]? = some (.cells (cur.toList.take (l * (L.ti e).size) ++ news ++ cur.toList.drop (l * (L.ti e).size + news.length)).toArray e (0, 0)) → Zf4 P w' St ρ n [(none, .ob (2 * e) (rows.take l ++ new'))] := fun w' hlat hg => by
       refine .row e _ _ hg (by rw [List.length_append, hlt0, ← hlen, ← hcc]; exact hroom) hcm2 ?_ hrows' (fun i j row e' hi hj => ?_)
       ·rw [List.size_toArray, hcells, ← hcs]; simp only [List.length_append, List.length_take, List.length_drop]; have e : cur.toList.length = cur.size := Array.length_toList; omega
       ·rw [hcells]
        by_cases hlt : i < l
        ·rw [List.getElem?_append_left (by omega)] at hi
         obtain ⟨y, hy, hyr⟩ := hre i j row e' (Zht hi).1 hj
         refine ⟨y, ?_, hyr.later hlat⟩
         rw [hcells] at hy
         have := hjlt hi hj
         rw [hget, if_neg (by omega)]
         exact hy
        ·rw [List.getElem?_append_right (by omega), hlt0] at hi
         obtain ⟨y, hy, hyr⟩ := hnr _ j row e' hi hj
         refine ⟨y, ?_, hyr.later hlat⟩
         have hylt : (i - l) * (L.ti e).size + j < news.length := (List.getElem?_eq_some_iff.1 hy).1
         have hidx : i * (L.ti e).size + j = l * (L.ti e).size + ((i - l) * (L.ti e).size + j) := by
          rw [← Nat.add_assoc, ← Nat.add_mul]; congr 2; omega
         rw [hget, if_pos (by omega), hidx, Nat.add_sub_cancel_left]
         exact hy
      have h5 := h3.storeObj hb h0 (cs' := [(none, .ob (2 * e) (rows.take l ++ new'))]) (w' := w.setRow (ρ n) (cur.toList.take (l * (L.ti e).size) ++ news ++ cur.toList.drop (l * (L.ti e).size + news.length)).toArray)
       (hnotok _) (fun _ hlat => hbox _ hlat hg) rfl rfl rfl (by simp [World.setRow]) (fun b hb => setRow_other w (ρ n) b _ hb)
      have hbn : (S.setBox n [(none, .ob (2 * e) (rows.take l ++ new'))]).box n = some [(none, .ob (2 * e) (rows.take l ++ new'))] := by rw [ZbN, if_pos rfl]
      have h6 := h5.reObj (d := d) (b := ρ n) (c := ρ (CAP + n)) (cs := [(none, .ob (2 * e) (rows.take l ++ new'))]) (D0 := .c none (.rs n (l + new.length))) (v := .slice (some ⟨ρ n, 0, none⟩) (l + new.length) cap) hcap (by rw [hsize]; exact hd) hge hSt
       (fun m ds hne hm hp => h5.inj m n ds _ hm hbn hne hp h0) (fun t k e v hh => h5.ownbox t k e v n _ hh hbn h0) h0
       (fun ρ' hρ => by rw [hlead] at hρ; subst hρ; exact (h5.blk hbn h0).2.2.2) (fun ρ' hρ => by
        rw [hlead] at hρ; subst hρ
        rw [hcc]
        exact Zca.rs n _ h0 (by omega) hcm2) (fun _ _ he => by cases he) (hnotok _)
      rw [ZvB] at h6
      exact h6
     ·have hol : (cur.toList.take (l * (L.ti e).size)).length = l * (L.ti e).size := by
       rw [List.length_take]; have e : cur.toList.length = cur.size := Array.length_toList; omega
      have hr1 := run_append_grow (P := P) w t o.type e ti2 u ht.und ht2.info hu ⟨ρ n, 0, none⟩ l cap (cur.toList.take (l * (L.ti e).size)) (by rw [hsz2]; exact hol)
       (fun j v hj => by
        rw [ZfD, Nat.zero_add, hcell0 _ hcur, ← Array.getElem?_toList]
        rw [List.getElem?_take] at hj
        split at hj
        ·exact hj
        ·cases hj)
       ⟨b, oo, none⟩ new.length c news (by rw [hsz2, hnl, hlen]) hnc (by omega) (by simp only [maxLen] at hmax; omega) (growslice_fits (by omega) hby')
      refine fin (grownCap w (l + new.length) cap e) _ hol (grownCap_ge w _ _ _) (grownCap_le_maxLen w _ _ _ hmax) (fun i j row e' hi hj => ?_) ?_
      ·obtain ⟨y, hy, hyr⟩ := hre i j row e' (Zht hi).1 hj
       refine ⟨y, ?_, hyr⟩
       rw [hcells] at hy
       have := hjlt hi hj
       rw [List.getElem?_take, if_pos this, Array.getElem?_toList]
       exact hy
      ·rw [hsv, hx]; exact hr1
theorem ZEk {d : D} {x : Value} {es : List E} (h : Zet w St ρ d x) (hd : d.es = some es) : x.cells.size = es.length ∧ ∀ (k : Nat) (e : E), es[k]? = some e → ∃ u, x.cells[k]? = some u ∧ Zca w St ρ e u := by
 have key : ∀ {cs : List Cell}, d.cells = some cs → cs.map (·.2) = es → x.cells.size = es.length ∧ ∀ (k : Nat) (e : E), es[k]? = some e → ∃ u, x.cells[k]? = some u ∧ Zca w St ρ e u := fun {cs} hc he => by
  obtain ⟨h1, h2, _⟩ := Zji h hc
  subst he
  refine ⟨by simpa using h1, fun k e hk => ?_⟩
  rw [List.getElem?_map, Option.map_eq_some_iff] at hk
  obtain ⟨c, hc1, rfl⟩ := hk
  exact h2 k c hc1
 cases d with
 | c tk e => simp only [D.es, Option.some.injEq] at hd; subst hd; exact key rfl rfl
 | agg es' => simp only [D.es, Option.some.injEq] at hd; subst hd; exact key rfl (by rw [List.map_map]; exact List.map_id' _)
 | ptr n off => simp only [D.es, Option.some.injEq] at hd; subst hd; exact key rfl rfl
 | _ => cases hd
include hL in
theorem ZuG (h : Zcv P nt df w0 M0 S0 ρ0 S a w) {o : Oper} {t : Nat} {p x : Operand} {n i off e : Nat} {rows rows' : List (List E)} {row new : List E} (ho : o.op = .store t p x) (hp : S.ev p = .ept n (L.ti e).size i off) (hx : (S.ev x).es = some new)
  (hb : S.box n = some [(none, .ob (2 * e) rows)]) (hke : (L.ti e).known = true) (hdst : o.dst = none) (hkn : (L.ti t).known = true) (hsz : new.length = (L.ti t).size) (hfl : new.all E.flat = true) (hrow : rows[i]? = some row) (hfit : off + new.length ≤ row.length)
  (hwe : WE (.sl (rows.set i (Zm1 row off new))) (.sl rows')) {next : Act → World → Prop} {Q : Exit → Act → World → Prop}
  (hnext : ∀ a' w', Zcv P nt df w0 M0 S0 ρ0 (S.setBox n [(none, .ob (2 * e) rows')]) a' w' → next a' w') : o.wp P a w next Q := by
 obtain ⟨h1, h2, St, ρ, h3, h4⟩ := h
 obtain ⟨d, ti, ht⟩ := hL.ty (t := t) (.inl hkn)
 obtain ⟨d2, ti2, ht2⟩ := hL.ty (t := e) (.inl hke)
 have hcells : P.cellsOf e = (L.ti e).size := by unfold Program.cellsOf; rw [ht2.info]; exact ht2.size.symm
 rcases Zxc h3 hb with ⟨_, hr⟩ | ⟨h0, hge, hSt, cur, hcur, hle, hcm, hcs, hrl, hre⟩
 ·subst hr; simp at hrow
 rw [hcells] at hcs
 have hp' : a.eval p = .pointer (some ⟨ρ n, i * (L.ti e).size + off, none⟩) := by have := ZbL h3 p; rw [hp] at this; exact this
 have hx' := ZbL h3 x
 obtain ⟨hc1, hc2⟩ := ZEk hx' hx
 have hone : ∀ v ∈ (a.eval x).cells.toList, v.oneCell' = true := fun v hv => by
  obtain ⟨k, hk⟩ := List.getElem?_of_mem hv
  have hk' : (a.eval x).cells[k]? = some v := by rw [← Array.getElem?_toList]; exact hk
  have hlt : k < new.length := by
   rcases Nat.lt_or_ge k (a.eval x).cells.size with h' | h'
   ·omega
   ·simp [Array.getElem?_eq_none h'] at hk'
  obtain ⟨u, hu, hru⟩ := hc2 k new[k] (by simp [hlt])
  rw [hk'] at hu
  injection hu with hu
  subst hu
  exact hru.oneCell
 have hil : i < rows.length := (List.getElem?_eq_some_iff.1 hrow).1
 have hrw : row.length = (L.ti e).size := by rw [hrl i row hrow, hcells]
 have hend : i * (L.ti e).size + off + new.length ≤ cur.size := by
  rw [hcs]
  have : (i + 1) * (L.ti e).size ≤ ρ (CAP + n) * (L.ti e).size := Nat.mul_le_mul_right _ (by omega)
  rw [Nat.add_mul] at this
  omega
 obtain ⟨w', hw1, hw2, hw3, hw4, hw5, hw6, hw7⟩ := Zkg (P := P) (ρ n) e (a.eval x).cells.toList (i * (L.ti e).size + off) cur w hcur (by simp; omega) hone
 have hrun : (execOp a.eval o).run P w = .ok .skip w' := by
  simp only [execOp, ho, Instr.storeAt, Instr.sureAddr, hp', storeVar, Sem.run_bind, Sem.run_pure, Result.andThen_ok, ZbX ht, Sem.run_ite]
  rw [if_neg (by rw [hc1, hsz]; simp)]
  simp only [Sem.run_bind, Sem.run_pure, Result.andThen_ok, hw1]
 unfold Oper.wp
 rw [hrun, Oper.upon_skip, hdst]
 refine hnext _ _ ⟨h1, h2, St, ρ, ?_, h4⟩
 obtain ⟨rows2, hr2, hlen, hrow2⟩ := hwe.inv
 injection hr2 with hr2
 subst hr2
 have hsl : (Zm1 row off new).length = row.length := by simp [Zm1]; omega
 have hget : ∀ (k : Nat), (Zh6 cur (i * (L.ti e).size + off) (a.eval x).cells.toList)[k]? = if i * (L.ti e).size + off ≤ k ∧ k < i * (L.ti e).size + off + new.length then (a.eval x).cells[k - (i * (L.ti e).size + off)]? else cur[k]? := fun k => by
  have hcl : cur.toList.length = cur.size := Array.length_toList
  have hxl : (a.eval x).cells.toList.length = new.length := by rw [Array.length_toList, hc1]
  have := Zjf cur.toList (a.eval x).cells.toList (i * (L.ti e).size + off) k (by omega)
  unfold Zh6
  rw [List.getElem?_toArray, this, hxl]; simp only [Array.getElem?_toList]
 refine h3.storeObj hb h0 (fun j t k e hj => by cases j <;> simp at hj) (fun hoth hlat => ?_) hw3 hw4 hw5 hw6 hw7
 refine .row e rows' _ hw2 (by rw [← hlen]; simpa using hle) hcm (by rw [hcells, ← hcs]; have hcl : cur.toList.length = cur.size := Array.length_toList; unfold Zh6; rw [List.size_toArray]; simp only [List.length_append, List.length_take, List.length_drop, Array.length_toList, hc1]; omega) (fun k r hk => ?_) (fun k j r y hk hj => ?_)
 ·obtain ⟨r0, hr0⟩ : ∃ r0, (rows.set i (Zm1 row off new))[k]? = some r0 := ⟨_, List.getElem?_eq_getElem (by rw [hlen]; exact (List.getElem?_eq_some_iff.1 hk).1)⟩
  rw [← (hrow2 k r0 r hr0 hk).1]
  by_cases hik : i = k
  ·subst hik
   rw [List.getElem?_set_self hil] at hr0
   injection hr0 with hr0; rw [← hr0, hsl, hrw, hcells]
  ·rw [List.getElem?_set_ne hik] at hr0
   exact hrl k r0 hr0
 ·obtain ⟨r0, hr0⟩ : ∃ r0, (rows.set i (Zm1 row off new))[k]? = some r0 := ⟨_, List.getElem?_eq_getElem (by rw [hlen]; exact (List.getElem?_eq_some_iff.1 hk).1)⟩
  obtain ⟨g1, g2⟩ := hrow2 k r0 r hr0 hk
  obtain ⟨y0, hy0⟩ : ∃ y0, r0[j]? = some y0 := ⟨_, List.getElem?_eq_getElem (by rw [g1]; exact (List.getElem?_eq_some_iff.1 hj).1)⟩
  have hwy := g2 j y0 y hy0 hj
  suffices hs : ∃ u, (Zh6 cur (i * (L.ti e).size + off) (a.eval x).cells.toList)[k * P.cellsOf e + j]? = some u ∧ Zdo w St y0 u by
   obtain ⟨u, hu, hr⟩ := hs
   exact ⟨u, hu, (hr.weak hwy).later hlat⟩
  rw [hcells, hget]
  by_cases hik : i = k
  ·subst hik
   rw [List.getElem?_set_self hil] at hr0
   injection hr0 with hr0
   subst hr0
   unfold Zm1 at hy0
   rw [Zjf row new off j hfit] at hy0
   split at hy0
   ·rename_i hin
    rw [if_pos (by omega)]
    obtain ⟨u, hu, hru⟩ := hc2 _ y0 hy0
    refine ⟨u, ?_, hru.plain (List.all_eq_true.1 hfl y0 (List.mem_of_getElem? hy0))⟩
    have : i * (L.ti e).size + j - (i * (L.ti e).size + off) = j - off := by omega
    rw [this]; exact hu
   ·rw [if_neg (by omega)]
    have := hre i j row y0 hrow hy0
    rwa [hcells] at this
  ·rw [List.getElem?_set_ne hik] at hr0
   have hjl : j < (L.ti e).size := by rw [← hcells, ← hrl k r0 hr0]; exact (List.getElem?_eq_some_iff.1 hy0).1
   rw [if_neg]
   ·have := hre k j r0 y0 hr0 hy0
    rwa [hcells] at this
   ·rintro ⟨q1, q2⟩
    rcases Nat.lt_or_ge k i with hlt | hge2
    ·have : (k + 1) * (L.ti e).size ≤ i * (L.ti e).size := Nat.mul_le_mul_right _ hlt
     rw [Nat.add_mul] at this; omega
    ·have : (i + 1) * (L.ti e).size ≤ k * (L.ti e).size := Nat.mul_le_mul_right _ (by omega)
     rw [Nat.add_mul] at this; omega
theorem Zcv.trunc (h : Zcv P nt df w0 M0 S0 ρ0 S a w) {n e l : Nat} {rows : List (List E)} (hb : S.box n = some [(none, .ob (2 * e) rows)]) : Zcv P nt df w0 M0 S0 ρ0 (S.setBox n [(none, .ob (2 * e) (rows.take l))]) a w := by
 obtain ⟨h1, h2, St, ρ, h3, h4⟩ := h
 refine ⟨h1, h2, St, ρ, ?_, h4⟩
 have hno : ∀ (j t k : Nat) (e' : E), ([(none, .ob (2 * e) (rows.take l))] : List Cell)[j]? ≠ some (some (t, k), e') := fun j t k e' hj => by
  cases j with
  | zero => simp at hj
  | succ j => simp at hj
 rcases Zxc h3 hb with ⟨h0, hr⟩ | ⟨h0, hge, hSt, cur, hcur, hle, hcm, hcs, hrl, hre⟩
 ·subst hr
  rw [List.take_nil]
  have hsame : ∀ m cs, (S.setBox n [(none, .ob (2 * e) [])]).box m = some cs → S.box m = some cs := fun m cs hm => by
   rw [ZbN] at hm
   split at hm
   ·rename_i he; subst he; rw [hb]; exact hm
   ·exact hm
  exact h3.less ⟨fun i => .inr (.inl rfl), fun m cs hm => ⟨cs, hsame m cs hm, rfl, fun k c hc => ⟨c, hc, rfl, .inl rfl⟩⟩⟩
 ·exact h3.storeObj hb h0 hno (fun _ hlat => .row e _ cur hcur (Nat.le_trans (by simp; omega) hle) hcm hcs (fun i row hi => hrl i row (Zht hi).1) (fun i j row y hi hj => hre i j row y (Zht hi).1 hj)) rfl rfl rfl rfl (fun _ _ => rfl)
theorem ZBX (h : ZQ P w0 M0 S0 S tm w St ρ) {n : Nat} {s : ByteArray} {pos : Int} (hP : (P.underlying 1000000).isNone = true) (hb : S.box n = some [(none, Zv0 s pos)]) :
  ∃ p : Nat, pos = ((p : Nat) : Int) ∧ 0 < ρ (CAP + n) ∧ w.heap[ρ n]? = some (.stringIter s p) := by
 have hP : P.underlying 1000000 = none := by simpa using hP
 unfold Zv0 ZC6 at hb
 rcases h.box n _ hb with ⟨_, k, h2⟩ | ⟨h0, h1, h2, h3⟩
 ·simp only [List.cons.injEq, Prod.mk.injEq, E.ob.injEq] at h2; omega
 ·generalize hcs : ([(none, .ob 2000001 [[.v (.string s), .v (.int .i64 pos)]])] : List Cell) = cs at h3
  cases h3 with
  | cells _ arr t g1 g2 g3 =>
   subst hcs
   obtain ⟨u, _, hr⟩ := g3 0 _ rfl
   cases hr with
   | e _ _ hr => cases hr
  | row k rows' cur g1 =>
   simp only [List.cons.injEq, Prod.mk.injEq, E.ob.injEq] at hcs
   omega
  | map t kt vt d rows' es clock l g0 =>
   simp only [List.cons.injEq, Prod.mk.injEq, E.ob.injEq] at hcs
   have : t = 1000000 := by omega
   subst this
   rw [hP] at g0; cases g0
  | iter s' p g0 g1 =>
   simp only [List.cons.injEq, Prod.mk.injEq, E.ob.injEq, E.v.injEq, Value.string.injEq, Value.int.injEq, true_and, and_true] at hcs
   obtain ⟨rfl, rfl⟩ := hcs
   exact ⟨p, rfl, h0, g1⟩
include hL in
theorem Zxa (h : Zcv P nt df w0 M0 S0 ρ0 S a w) (hnt : nt ≤ EXT) {o : Oper} {t : Nat} {x : Operand} (ho : o.op = .range t x) {K : AS → Prop} (hk : ZuZ P L nt S o.dst t (S.ev x) K) {next : Act → World → Prop} {Q : Exit → Act → World → Prop}
  (hnext : ∀ S' a' w', K S' → Zcv P nt df w0 M0 S0 ρ0 S' a' w' → next a' w') : o.wp P a w next Q := by
 unfold ZuZ at hk
 split at hk
 case h_2 => exact hk.elim
 rename_i d tk s hdst hty hx
 obtain ⟨hd, hP, hK⟩ := hk
 obtain ⟨h1, h2, St, ρ, h3, h4⟩ := h
 obtain ⟨dd, ti, ht⟩ := hL.ty (t := t) (.inl (ZaD hty (by simp)))
 have hdd : dd = .string := by have := ht.k.symm.trans hty; cases dd <;> simp_all [ZhK]
 subst hdd
 have hc : d < CAP := by unfold CAP; unfold EXT at hnt; omega
 have hv : a.eval x = .string s := by have := ZbL h3 x; rw [hx] at this; have := Zca.val this; generalize a.eval x = y at this; cases this; rfl
 have hrun : (execOp a.eval o).run P w = .ok (.value (.pointer (some ⟨w.heap.size, 0, none⟩))) (w.alloc (.stringIter s 0)) := by
  simp only [execOp, ho, Instr.range, hv, Sem.run_bind, run_underlying ht.und, Sem.run_pure, run_newObj, Result.andThen_ok, World.alloc_eq]
 unfold Oper.wp
 rw [hrun, Oper.upon_value, hdst]
 refine hnext _ _ _ hK ⟨h1, by rw [ZeQ]; exact h2, St, _, h3.newObj (.stringIter s 0) 1 hc (by omega) (by omega) (fun ρ' hρ => ?_) (fun ρ' hρ => ?_) (fun _ _ he => by cases he) (fun j t' k e u' hj hu => ?_), fun n hn hn2 => ?_⟩
 ·subst hρ
  exact .iter s 0 (by simpa using hP) (by rw [Zhy]; exact heap_alloc_new w _)
 ·subst hρ; show _ = _; rw [Zhy]
 ·cases j with
  | zero => simp at hj
  | succ j => simp at hj
 ·rw [ZoP (by omega) (by unfold CAP; unfold NEW at hn2; omega), ZnW (by omega) hc]; exact h4 n hn hn2
theorem ZyD (h : Zcv P nt df w0 M0 S0 ρ0 S a w) {o : Oper} {x : Operand} (ho : o.op = .next x true) {K : AS → Prop} (hk : Zyb P nt S o.dst (S.ev x) K) {next : Act → World → Prop} {Q : Exit → Act → World → Prop}
  (hnext : ∀ S' a' w', K S' → Zcv P nt df w0 M0 S0 ρ0 S' a' w' → next a' w') : o.wp P a w next Q := by
 unfold Zyb at hk
 split at hk
 case h_2 => exact hk.elim
 rename_i n hx
 split at hk
 case h_2 => exact hk.elim
 rename_i code s pos hb
 obtain ⟨rfl, hd, hP, hK⟩ := hk
 have h' := h
 obtain ⟨h1, h2, St, ρ, h3, h4⟩ := h
 obtain ⟨p, rfl, h0, hh⟩ := ZBX h3 hP hb
 have hv : a.eval x = .pointer (some ⟨ρ n, 0, none⟩) := by have := ZbL h3 x; rw [hx] at this; exact this
 have hP' : P.underlying 1000000 = none := by simpa using hP
 have hpn : ((p : Nat) : Int).toNat = p := rfl
 rw [hpn] at hK
 have hlt : ρ n < w.heap.size := (Array.getElem?_eq_some_iff.1 hh).1
 have hget : (getObj (ρ n)).run P w = .ok (.stringIter s p) w := by simp [getObj, Sem.run, hh]
 have tupR : ∀ (vs : List Value), (∀ v ∈ vs, v.oneCell' = true) → ∀ (w' : World) (St' : ZaA) (ρ' : Nat → Nat), Zet w' St' ρ' (.tup (vs.map fun v => .c (.v v))) (.tuple vs.toArray) := fun vs hv w' St' ρ' => by
  refine ⟨vs, rfl, by simp, fun k x hk => ?_⟩
  rw [List.getElem?_map, Option.map_eq_some_iff] at hk
  obtain ⟨v, hv1, rfl⟩ := hk
  exact ⟨v, hv1, .e _ _ (.v v (hv v (List.mem_of_getElem? hv1)))⟩
 unfold Oper.wp
 by_cases hp : p < s.size
 ·have hrun : (execOp a.eval o).run P w = .ok (.value (.tuple #[.bool true, .int .i64 ((p : Nat) : Int), .int .i32 (((Utf8.decode s p).1 : Nat) : Int)])) { w with heap := w.heap.setIfInBounds (ρ n) (.stringIter s (p + (Utf8.decode s p).2)) } := by
   simp only [execOp, ho, Instr.next, hv, Sem.run_bind, hget, Result.andThen_ok, if_pos hp]
   simp [setObj, Sem.run, hh, Result.andThen, goInt]
  rw [hrun, Oper.upon_value]
  have hd1 : decide (p < s.size) = true := by simpa using hp
  rw [hd1] at hK
  refine hnext _ _ _ hK (ZpU (d := .tup [.c (.v (.bool true)), .c (.v (.int .i64 ((p : Nat) : Int))), .c (.v (.int .i32 (((Utf8.decode s p).1 : Nat) : Int)))]) (S := S.setBox n [(none, Zv0 s ((p + (Utf8.decode s p).2 : Nat) : Int))])
   ⟨h1, h2, St, ρ, h3.storeObj (w' := { w with heap := w.heap.setIfInBounds (ρ n) (.stringIter s (p + (Utf8.decode s p).2)) }) hb h0 (fun j t k e => by cases j <;> simp) (fun hoth hlat => .iter s _ hP' (by simp [hlt])) rfl rfl rfl (by simp) (fun b hb' => by simp [Array.getElem?_setIfInBounds, Ne.symm hb']), h4⟩ hd
   (fun St ρ h3 => ⟨tupR [.bool true, .int .i64 ((p : Nat) : Int), .int .i32 (((Utf8.decode s p).1 : Nat) : Int)] (by simp [Value.oneCell']) _ _ _, fun t k e he => by cases he⟩))
 ·have hrun : (execOp a.eval o).run P w = .ok (.value (.tuple #[.bool false])) w := by
   simp only [execOp, ho, Instr.next, hv, Sem.run_bind, hget, Result.andThen_ok, if_neg hp, Sem.run_pure]
  rw [hrun, Oper.upon_value]
  have hd1 : decide (p < s.size) = false := by simpa using hp
  rw [hd1] at hK
  exact hnext _ _ _ hK (ZpU h' hd (fun St ρ h3 => ⟨tupR [.bool false] (by simp [Value.oneCell']) _ _ _, fun t k e he => by cases he⟩))
end

section
variable {P : Program} [Gl P] {w0 : World} {M0 : Nat → Prop} {S0 : ZaA} {L : Tab} (hL : TOk P L) {nt : Nat} (hnt : nt ≤ EXT) {ρ0 : Nat → Nat} {df : List Deferred} {S : AS} {a : Act} {w : World}
include hL hnt in
theorem ZeA {o : Oper} {K : AS → Prop} (hk : Zgg P L nt S o K) (h : Zcv P nt df w0 M0 S0 ρ0 S a w) {next : Act → World → Prop} {Q : Exit → Act → World → Prop}
  (hn : ∀ S' a' w', K S' → Zcv P nt df w0 M0 S0 ρ0 S' a' w' → next a' w') : o.wp P a w next Q := by
 unfold Zgg at hk
 split at hk
 ·
  rename_i t x hop
  split at hk
  case h_2 => exact hk.elim
  rename_i d cs hdst hcs
  obtain ⟨hd, hK⟩ := hk
  have h' := h
  obtain ⟨_, _, St, ρ, h3, _⟩ := h'
  have hrun : (execOp a.eval o).run P w = .ok (.value (.pointer (some ⟨w.heap.size, 0, none⟩))) (w.alloc (.cells (a.eval x).cells t)) := by
   simp only [execOp, hop, Instr.box, newVar, newRow, Sem.run_bind, Sem.run_pure, run_newObj, Result.andThen_ok, World.alloc_eq]
  unfold Oper.wp
  rw [hrun, Oper.upon_value, hdst]
  refine hn _ _ _ hK (ZnP h t hd hnt (Zji (ZbL h3 x) hcs).1 (fun St ρ h3 => (Zji (ZbL h3 x) hcs).2.1) (fun j t' k e u hj hu => ?_))
  obtain ⟨h5, rfl⟩ := (Zji (ZbL h3 x) hcs).2.2 j t' k e u hj hu
  exact ZA1 h5
 ·
  rename_i t hop
  split at hk
  case h_2 => exact hk.elim
  rename_i d z hdst hz
  obtain ⟨hd, hK⟩ := hk
  have hty : ∃ ti u, P.info? t = some ti ∧ ti.zero = some u ∧ u.cells.toList.all (·.oneCell') = true ∧ z = u.cells.toList.map ZhG := by
   rcases hL.at_ t with h1 | h1
   ·rw [h1] at hz
    unfold TI.of at hz
    cases hi : P.info? t with
    | none => rw [hi] at hz; cases hz
    | some ti =>
     cases hu : P.underlying t with
     | none => rw [hi, hu] at hz; cases hz
     | some dd =>
      rw [hi, hu] at hz
      simp only [Option.bind_eq_some_iff] at hz
      obtain ⟨u, h2, h3⟩ := hz
      split at h3
      ·rename_i hall
       rw [Bool.and_eq_true] at hall
       exact ⟨ti, u, rfl, h2, hall.1, by simpa using h3.symm⟩
      ·cases h3
   ·rw [h1] at hz; cases hz
  obtain ⟨ti, u, hi, hu, hall, rfl⟩ := hty
  have hrun : (execOp a.eval o).run P w = .ok (.value (.pointer (some ⟨w.heap.size, 0, none⟩))) (w.alloc (.cells u.cells t)) := by
   simp only [execOp, hop, Instr.alloc, zeroValue, typeInfo, newVar, newRow, Sem.run_bind, Sem.run_pure, run_program, hi, hu, run_newObj, Result.andThen_ok, World.alloc_eq]
  unfold Oper.wp
  rw [hrun, Oper.upon_value, hdst]
  have hren : ∀ l : List Value, Cell.rens (but d) ((l.map ZhG).map fun e => ((none, e) : Cell)) = (l.map ZhG).map fun e => (none, e) := fun l => by
   rw [Cell.rens_map, List.map_map]
   refine List.map_congr_left fun e he => ?_
   obtain ⟨x, _, rfl⟩ := List.mem_map.1 he
   have : (ZhG x).ren (but d) = ZhG x := by unfold ZhG; split <;> rfl
   show (none, _) = _
   rw [this]
  rw [← hren] at hK
  refine hn _ _ _ hK (ZnP h t hd hnt (by simp) (fun St ρ h3 k c hc => ?_) (fun j t' k e u' hj hu' => ?_))
  ·rw [List.getElem?_map] at hc
   cases he : (u.cells.toList.map ZhG)[k]? with
   | none => rw [he] at hc; cases hc
   | some e =>
    rw [he] at hc
    simp only [Option.map_some, Option.some.injEq] at hc
    subst hc
    obtain ⟨y, hy, hr⟩ := (Zjd w St hall).2 k e he
    exact ⟨y, by rw [← Array.getElem?_toList]; exact hy, .e _ _ hr⟩
  ·rw [List.getElem?_map] at hj
   cases he : (u.cells.toList.map ZhG)[j]? <;> rw [he] at hj <;> cases hj
 ·
  rename_i t len parts hop
  split at hk
  case h_2 => exact hk.elim
  rename_i d e hdst hty
  split at hk
  case h_2 => exact hk.elim
  rename_i z hz
  obtain ⟨hd, hs0, hzl, hbig, hK⟩ := hk
  exact ZjS hL h hop hdst hty hz hd hs0 hzl hbig hK (fun es a' w' ⟨rows', hwe, hk'⟩ hr => hn _ _ _ hk' (hr.lessRows hwe))
 ·
  rename_i t x y hop
  split at hk
  case h_2 => exact hk.elim
  rename_i d e n c hdst hty hx hy
  obtain ⟨hd, hs0, hz, rfl, h0, hm, hb, hK⟩ := hk
  exact Ztb hL h hop hdst hty hz hd hs0 hx hy h0 hm hb (fun a' w' hr => hn _ _ _ hK hr)
 ·
  rename_i t p x hop
  split at hk
  ·rename_i n off hp
   split at hk
   case h_2 => exact hk.elim
   rename_i new hx
   split at hk
   case h_2 => exact hk.elim
   rename_i cs hcs
   obtain ⟨hpl, hdst, hkn, hsz, hb, hK⟩ := hk
   exact ZwG hL h hop hp hx hcs hpl hdst hkn hsz hb (fun a' w' hr => hn _ _ _ hK hr)
  ·rename_i n sz i off hp
   unfold ZsE at hk
   split at hk
   case h_2 => exact hk.elim
   rename_i code rows new hb hx
   split at hk
   case h_2 => exact hk.elim
   rename_i row hrow
   obtain ⟨h2, hke, rfl, hdst, hkn, hsz, hfl, hfit, rows', hwe, hK⟩ := hk
   obtain ⟨e, rfl⟩ : ∃ e, code = 2 * e := ⟨code / 2, by omega⟩
   have he : 2 * e / 2 = e := by omega
   rw [he] at hke hp
   exact ZuG hL h hop hp hx hb hke hdst hkn hsz hfl hrow hfit hwe (fun a' w' hr => hn _ _ _ hK hr)
  ·exact hk.elim
 ·
  rename_i t r hop
  split at hk
  case h_2 => exact hk.elim
  rename_i d u v hdst hty
  obtain ⟨hd, hu, hr, hK⟩ := hk
  exact Zvk h hL hop hdst hd hnt hty hu (by cases r <;> exact hr) (fun a' w' hr => hn _ _ _ hK hr)
 ·rename_i t m k x hop
  exact Zrd hL h (.inl hop) hk hn
 ·rename_i t m k x hop
  exact Zrd hL h (.inr hop) hk hn
 ·
  rename_i t x hop
  exact Zxa hL h hnt hop hk hn
 ·
  rename_i x str hop
  obtain ⟨rfl, hk⟩ := hk
  exact ZyD h hop hk hn
 ·
  rename_i t x lo hi mx hop
  split at hk
  ·rename_i tk n m hx
   unfold Zsk at hk
   split at hk
   case h_2 => exact hk.elim
   rename_i e code rows l hh hmx hty hb hl hhb
   obtain ⟨rfl, hd, rfl, h0, hm, hkn, rows', l', rfl, rfl, hK⟩ := hk
   have hmx' : mx = none := by cases mx with | none => rfl | some y => cases hmx
   subst hmx'
   refine ZpI hL (K := fun S' => S' = S.putO o.dst (.c none (.rs n hh.toNat))) ⟨hd, ?_⟩ h fun S' a' w' hS h' => ?_
   ·rw [hop]
    simp only [opV, hx, Option.map_none]
    unfold Zpl
    simp only [hty, hl, hhb]
    exact ⟨trivial, h0, hm, hkn, trivial⟩
   ·subst hS
    refine hn _ _ _ hK ?_
    have hb' : (S.putO o.dst (.c none (.rs n hh.toNat))).box n = some [(none, .ob (2 * e) rows)] := by
     cases o.dst with
     | none => exact hb
     | some d => exact hb
    have h5 := h'.trunc (l := hh.toNat) hb'
    have he : (S.putO o.dst (.c none (.rs n hh.toNat))).setBox n [(none, .ob (2 * e) (rows.take hh.toNat))] = (S.setBox n [(none, .ob (2 * e) (rows.take hh.toNat))]).putO o.dst (.c none (.rs n hh.toNat)) := by
     cases o.dst with
     | none => rfl
     | some d => rfl
    rw [← he]; exact h5
  ·exact ZpI hL hk h hn
 ·
  rename_i c hop
  obtain ⟨callee, args, argTypes⟩ := c
  have hsz : ∀ {α : Type} (x : Array α) (l : List α), x.toList = l → x = l.toArray := fun x l h => by rw [← h]
  split at hk
  ·rename_i s x t u h1 h2 h3
   obtain ⟨rfl, hk⟩ := hk
   simp only at h1 h2 h3
   obtain rfl := h1; obtain rfl := hsz _ _ h2; obtain rfl := hsz _ _ h3
   unfold Ztr at hk
   split at hk
   ·rename_i tk n l hse
    unfold Zqd at hk
    split at hk
    case h_2 => exact hk.elim
    rename_i d e code rows new hdst hty hb hnew
    obtain ⟨rfl, hd, hext, hs0, hz, hl, hnr, hmax, hby, new', rows', l', hwe, rfl, rfl, hK⟩ := hk
    exact ZtV hL h hop hdst hty hse hb hnew hd hext hs0 hz hl hnr hmax hby hwe (fun a' w' hr => hn _ _ _ hK hr)
   ·exact ZvG hL h hop hk hn
  ·rename_i x t h1 h2 h3
   simp only at h1 h2 h3
   obtain rfl := h1; obtain rfl := hsz _ _ h2; obtain rfl := hsz _ _ h3
   split at hk
   case h_2 => exact hk.elim
   rename_i u v tk n hmt hx
   split at hk
   case h_2 => exact hk.elim
   rename_i code rows hb
   obtain ⟨hcode, hd, hK⟩ := hk
   exact Zw8 hL h hop hmt hx hb hcode hd (fun a' w' hr => hn _ _ _ hK hr)
  ·rename_i f h1
   simp only at h1
   subst h1
   exact Zqz h hop hk hn
  ·exact ZpI hL hk h hn
 ·exact ZpI hL hk h hn
theorem Zj6 (h : Zcv P nt df w0 M0 S0 ρ0 S a w) {g : Nat} {tk : Option (Nat × Nat)} {x : Value} (hg : S.get g = .c tk (.v x)) : Zcv P nt df w0 M0 S0 ρ0 (S.put g (.c tk (.v x))) a w := by
 obtain ⟨h1, h2, St, ρ, h3, h4⟩ := h
 exact ⟨h1, h2, St, ρ, h3.less ⟨fun i => .inr (.inl (by rw [Ze1]; split; rename_i he; subst he; exact hg.symm; rfl)), fun n cs hn => ⟨cs, hn, rfl, fun k c hc => ⟨c, hc, rfl, .inl rfl⟩⟩⟩, h4⟩
include hL hnt in
theorem Zjl (ops : Array Oper) {Q : Exit → Act → World → Prop} {K : AS → Prop} (hn : ∀ S' a' w', K S' → Zcv P nt df w0 M0 S0 ρ0 S' a' w' → Q .normal a' w') :
  ∀ (os : List Oper) (l : List Nat) (S : AS) (a : Act) (w : World), l.map (ops[·]?) = os.map some → ZmT P L nt ops os S K → Zcv P nt df w0 M0 S0 ρ0 S a w → wpOps P ops Q l a w
 | [], [], S, a, w, _, hk, h => hn S a w hk h
 | [], _ :: _, S, a, w, hl, _, _ => by simp at hl
 | _ :: _, [], S, a, w, hl, _, _ => by simp at hl
 | o :: os, i :: l, S, a, w, hl, hk, h => by
  simp only [List.map_cons, List.cons.injEq] at hl
  obtain ⟨hi, hl⟩ := hl
  rw [wpOps_cons]
  unfold wpOp
  simp only [hi]
  simp only [ZmT, Zgs] at hk
  split at hk
  ·rename_i hg
   have hw : Region.wanted o (yielded ops a.tmps) = true := by simp [Region.wanted, hg]
   rw [if_pos hw]
   exact .inl (ZeA hL hnt hk h fun S' a' w' hk' h' => Zjl ops hn os l S' a' w' hl hk' h')
  ·rename_i j want hg
   split at hk
   case h_2 => exact hk.elim
   rename_i g hj
   split at hk
   case h_3 => exact hk.elim
   case h_2 hb =>
    obtain ⟨hd, hk⟩ := hk
    have hval : a.tmps.getD g undef = undef := by
     obtain ⟨_, _, St, ρ, h3, _⟩ := h
     have := h3.tmp g
     rw [hb] at this
     obtain ⟨vs, hv, hl, _⟩ := this
     rw [hv]
     have : vs = [] := List.eq_nil_of_length_eq_zero hl.symm
     rw [this]; rfl
    have hw : Region.wanted o (yielded ops a.tmps) = false := by
     simp only [Region.wanted, hg]
     have : yielded ops a.tmps j = none := by
      simp only [yielded, hj, Option.bind_some]
      rw [Array.getD_eq_getD_getElem?] at hval
      cases ht : a.tmps[g]? with
      | none => rfl
      | some y => rw [ht] at hval; simp only [Option.getD_some] at hval; rw [hval]; rfl
     rw [this]; rfl
    rw [hw]
    simp only [Bool.false_eq_true, if_false]
    exact Zjl ops hn os l _ _ w hl hk (ZjJ h hd)
   rename_i tk b hb
   obtain ⟨hd, hk⟩ := hk
   have hyes := fun e => Zlc hk e
   have hno := fun e => Zmq hk e
   have hval : a.tmps.getD g undef = .bool b := by
    obtain ⟨_, _, St, ρ, h3, _⟩ := h
    have := h3.tmp g
    rw [hb] at this
    exact (ZfF (d := .c tk (.v (.bool b))) this rfl).1
   have hw : Region.wanted o (yielded ops a.tmps) = (b == want) := by
    simp only [Region.wanted, hg]
    have : yielded ops a.tmps j = some b := by
     have hg2 : a.tmps[g]? = some (.bool b) := by
      rw [Array.getD_eq_getD_getElem?] at hval
      cases ht : a.tmps[g]? with
      | none => rw [ht] at hval; cases hval
      | some y => rw [ht] at hval; simp only [Option.getD_some] at hval; rw [hval]
     simp only [yielded, hj, Option.bind_some, hg2]
    rw [this]; rfl
   rw [hw]
   by_cases hbw : b = want
   ·subst hbw
    simp only [beq_self_eq_true, if_true]
    exact .inl (ZeA hL hnt (hyes rfl) (Zj6 h hb) fun S' a' w' hk' h' => Zjl ops hn os l S' a' w' hl hk' h')
   ·have hb2 : b = !want := by cases b <;> cases want <;> simp_all
    have hf : (b == want) = false := by simpa using hbw
    rw [hf]
    simp only [Bool.false_eq_true, if_false]
    subst hb2
    exact Zjl ops hn os l _ _ w hl (hno rfl) (ZjJ (Zj6 h hb) hd)
end
def Zsx : Type := (P : Program) → [Gl P] → (L : Tab) → (nt : Nat) → Array Oper → AS → (AS → Prop) → Prop
def ZuL (P : Program) [Gl P] (L : Tab) (nt : Nat) (Dr : Zsx) : Prop :=
 ∀ (df : List Deferred) (w0 : World) (M0 : Nat → Prop) (S0 : ZaA) (ρ0 : Nat → Nat) (id : Nat) (ops : Array Oper) (S : AS) (a : Act) (w : World) (K : AS → Prop) (Q : Exit → Act → World → Prop), Dr P L nt ops S K → Zcv P nt df w0 M0 S0 ρ0 S a w →
  (∀ S' a' w', K S' → Zcv P nt df w0 M0 S0 ρ0 S' a' w' → Q .normal a' w') → (Code.region id ops true).wp P Q a w
def Zo7 (next : AS → Prop) (Q : Exit → AS → Prop) : Exit → AS → Prop
 | .normal, S => next S
 | e, S => Q e S
def Zph (id : Nat) (Q : Exit → AS → Prop) : Exit → AS → Prop
 | .exit i, S => if i = id then Q .normal S else Q (.exit i) S
 | e, S => Q e S
def awp (Dr : Zsx) (P : Program) [Gl P] (L : Tab) (nt : Nat) : Code → (Exit → AS → Prop) → AS → Prop
 | .skip, Q, S => Q .normal S
 | .label _, Q, S => Q .normal S
 | .region _ ops draw, Q, S => if draw then Dr P L nt ops S (Q .normal) else ZmT P L nt ops ops.toList S (Q .normal)
 | .seq x y, Q, S => awp Dr P L nt x (Zo7 (awp Dr P L nt y Q) Q) S
 | .cond c x y, Q, S =>
  match S.ev c with
  | .c _ (.v (.bool b)) => ZgU b (awp Dr P L nt x Q S) (awp Dr P L nt y Q S)
  | _ => False
 | .block id c, Q, S => awp Dr P L nt c (Zph id Q) S
 | .loop c, Q, S => ∃ (ts bs : List Nat) (I : Nat → AS → Prop), (∃ n, I n (S.keep ts bs)) ∧ ∀ n T, I n T → awp Dr P L nt c (Zo7 (fun T' => ∃ m, m < n ∧ I m (T'.keep ts bs)) Q) T
 | .exit id, Q, S => Q (.exit id) S
 | .ret, Q, S => Q .ret S
 | _, _, _ => False
section
variable {P : Program} [Gl P] {w0 : World} {M0 : Nat → Prop} {S0 : ZaA} {L : Tab} (hL : TOk P L) {nt : Nat} (hnt : nt ≤ EXT) {ρ0 : Nat → Nat} {df : List Deferred} {Dr : Zsx} (hD : ZuL P L nt Dr)
theorem Zcv.less {S T : AS} {a : Act} {w : World} (h : Zcv P nt df w0 M0 S0 ρ0 S a w) (hl : Zix S T) : Zcv P nt df w0 M0 S0 ρ0 T a w := by
 obtain ⟨h1, h2, St, ρ, h3, h4⟩ := h
 exact ⟨h1, h2, St, ρ, h3.less hl, h4⟩
def post (P : Program) [Gl P] (nt : Nat) (df : List Deferred) (w0 : World) (M0 : Nat → Prop) (S0 : ZaA) (ρ0 : Nat → Nat) (Q : Exit → AS → Prop) : Exit → Act → World → Prop :=
 fun e a w => ∃ S, Q e S ∧ Zcv P nt df w0 M0 S0 ρ0 S a w
include hL hnt hD in
theorem Zjc : ∀ (c : Code) (Q : Exit → AS → Prop) (S : AS) (a : Act) (w : World), awp Dr P L nt c Q S → Zcv P nt df w0 M0 S0 ρ0 S a w → c.wp P (post P nt df w0 M0 S0 ρ0 Q) a w
 | .skip, Q, S, a, w, hk, h => wp_skip ⟨S, hk, h⟩
 | .label l, Q, S, a, w, hk, h => wp_label ⟨S, hk, h⟩
 | .exit id, Q, S, a, w, hk, h => wp_exit ⟨S, hk, h⟩
 | .ret, Q, S, a, w, hk, h => wp_ret ⟨S, hk, h⟩
 | .region id ops draw, Q, S, a, w, hk, h => by
  simp only [awp] at hk
  cases draw with
  | true => exact hD df w0 M0 S0 ρ0 id ops S a w _ _ hk h fun S' a' w' hk' h' => ⟨S', hk', h'⟩
  | false =>
   refine wp_region (Zjl (Q := post P nt df w0 M0 S0 ρ0 Q) hL hnt ops (K := Q .normal) (fun S' a' w' hk' h' => ⟨S', hk', h'⟩) ops.toList (List.range ops.size) S a w ?_ hk h)
   apply List.ext_getElem?
   intro i
   simp only [List.getElem?_map, Array.getElem?_toList]
   by_cases hi : i < ops.size
   ·rw [List.getElem?_range hi]; simp [hi]
   ·rw [List.getElem?_eq_none (by simpa using hi), Array.getElem?_eq_none (by omega)]; rfl
 | .seq x y, Q, S, a, w, hk, h => by
  refine wp_seq (wp_mono (Zjc x _ S a w hk h) ?_)
  rintro e a' w' ⟨S', hq, h'⟩
  cases e with
  | normal => exact Zjc y Q S' a' w' hq h'
  | exit id => exact ⟨S', hq, h'⟩
  | goto l => exact ⟨S', hq, h'⟩
  | ret => exact ⟨S', hq, h'⟩
  | panic ch => exact ⟨S', hq, h'⟩
  | outgrown => exact ⟨S', hq, h'⟩
 | .cond c x y, Q, S, a, w, hk, h => by
  simp only [awp] at hk
  split at hk
  ·rename_i tk b hc
   have hv : a.eval c = .bool b := by
    obtain ⟨_, _, St, ρ, h3, _⟩ := h
    have := ZbL h3 c
    rw [hc] at this
    exact (ZfF (d := .c tk (.v (.bool b))) this rfl).1
   refine wp_cond hv ?_
   cases b with
   | true => exact Zjc x Q S a w hk h
   | false => exact Zjc y Q S a w hk h
  ·exact hk.elim
 | .block id c, Q, S, a, w, hk, h => by
  refine wp_block (wp_mono (Zjc c _ S a w hk h) ?_)
  rintro e a' w' ⟨S', hq, h'⟩
  cases e with
  | exit i =>
   simp only [Exit.inBlock, Zph] at hq ⊢
   by_cases hi : i = id
   ·rw [if_pos hi] at hq; rw [if_pos hi]; exact ⟨S', hq, h'⟩
   ·rw [if_neg hi] at hq; rw [if_neg hi]; exact ⟨S', hq, h'⟩
  | normal => exact ⟨S', hq, h'⟩
  | goto l => exact ⟨S', hq, h'⟩
  | ret => exact ⟨S', hq, h'⟩
  | panic ch => exact ⟨S', hq, h'⟩
  | outgrown => exact ⟨S', hq, h'⟩
 | .loop c, Q, S, a, w, hk, h => by
  obtain ⟨ts, bs, I, ⟨n, h0⟩, hround⟩ := hk
  have key : ∀ n S a w, I n S → Zcv P nt df w0 M0 S0 ρ0 S a w → ∀ (b : Frame) (k : List Item) (cs : List Frame),
    ∃ e a' w', post P nt df w0 M0 S0 ρ0 Q e a' w' ∧ Arrives P (lone (b.at a (.code c :: .inLoop c :: k)) cs w) b k cs e a' w' := by
   intro n
   induction n using Nat.strongRecOn with
   | _ n ih =>
    intro S a w hI hr b k cs
    obtain ⟨e, a₁, w₁, ⟨S₁, hq, hr₁⟩, harr⟩ := Zjc c _ S a w (hround n S hI) hr b (.inLoop c :: k) cs
    cases e with
    | normal =>
     obtain ⟨m, hm, hI'⟩ := hq
     obtain ⟨e₂, a₂, w₂, hq₂, harr₂⟩ := ih m hm _ a₁ w₁ hI' (hr₁.less (Zix.keep S₁ ts bs)) b k cs
     exact ⟨e₂, a₂, w₂, hq₂, .of_steps (Steps.trans harr (.one step_inLoop)) harr₂⟩
    | exit id => exact ⟨_, a₁, w₁, ⟨S₁, hq, hr₁⟩, .pass (x := .inLoop c) rfl (fun _ _ => .inl (by simp)) harr⟩
    | goto l => exact ⟨_, a₁, w₁, ⟨S₁, hq, hr₁⟩, .pass (x := .inLoop c) rfl (fun _ _ => .inl (by simp)) harr⟩
    | ret => exact ⟨_, a₁, w₁, ⟨S₁, hq, hr₁⟩, .pass (x := .inLoop c) rfl (fun _ _ => .inl (by simp)) harr⟩
    | panic ch => exact ⟨_, a₁, w₁, ⟨S₁, hq, hr₁⟩, .pass (x := .inLoop c) rfl (fun _ _ => .inl (by simp)) harr⟩
    | outgrown => exact ⟨_, a₁, w₁, ⟨S₁, hq, hr₁⟩, .pass (x := .inLoop c) rfl (fun _ _ => .inl (by simp)) harr⟩
  intro b k cs
  obtain ⟨e, a', w', hq, harr⟩ := key n _ a w h0 (h.less (Zix.keep S ts bs)) b k cs
  exact ⟨e, a', w', hq, .of_steps (.one step_loop) harr⟩
 | .rangeFunc .., Q, S, a, w, hk, h => hk.elim
 | .scope _, Q, S, a, w, hk, h => hk.elim
 | .goto _, Q, S, a, w, hk, h => hk.elim
 | .refuse _, Q, S, a, w, hk, h => hk.elim
def ZyW (L : Tab) (S : AS) : List ResultVar → (List D → Prop) → Prop
 | [], K => K []
 | .tmp t :: rs, K => ZyW L S rs fun ds => K (S.get t :: ds)
 | .cell c t :: rs, K => ZqZ L S t (S.get c) fun d => ZyW L S rs fun ds => K (d.plain :: ds)
def ZCS (L : Tab) (S : AS) (rs : List ResultVar) (K : D → Prop) : Prop :=
 ZyW L S rs fun ds => match ds with
  | [d] => K d
  | ds => K (.tup (ds.map D.x))
def Zsa (tm : Array Value) (r : ResultVar) : Sem Value :=
 match r with
 | .tmp t => pure (tm.getD t undef)
 | .cell c t => do loadVar t (← asAddr (tm.getD c undef))
theorem ZsO {St : ZaA} {ρ : Nat → Nat} {S : AS} {a : Act} {w : World} (h : ZQ P w0 M0 S0 S a.tmps w St ρ) (hL : TOk P L) : ∀ (rs : List ResultVar) (K : List D → Prop), ZyW L S rs K →
  ∃ (ds : List D) (vs : List Value), K ds ∧ ds.length = rs.length ∧ vs.length = rs.length ∧
   (rs.mapM (Zsa a.tmps)).run P w = .ok vs w ∧
   ∀ (i : Nat) (d : D), ds[i]? = some d → ∃ v, vs[i]? = some v ∧ Zet w St ρ d v ∧ ∀ t k e, d = .c (some (t, k)) e → Zcm S a.tmps w ρ t k e v
 | [], K, hk => ⟨[], [], hk, rfl, rfl, rfl, fun i d hd => by simp at hd⟩
 | .tmp t :: rs, K, hk => by
  obtain ⟨ds, vs, h1, h2, h3, h4, h5⟩ := ZsO h hL rs _ hk
  refine ⟨_, a.tmps.getD t undef :: vs, h1, by simp [h2], by simp [h3], ?_, fun i d hd => ?_⟩
  ·rw [List.mapM_cons]
   simp only [Zsa, Sem.run_bind, Sem.run_pure, Result.andThen_ok]
   rw [h4]; rfl
  ·cases i with
   | zero => simp only [List.getElem?_cons_zero, Option.some.injEq] at hd; subst hd; exact ⟨_, rfl, h.tmp t, fun t' k e he => .inl ⟨t, he, rfl⟩⟩
   | succ i => exact h5 i d (by simpa using hd)
 | .cell c t :: rs, K, hk => by
  obtain ⟨d, v, hkd, hrun, hrep, _⟩ := Zsr hL h (x := .tmp c) (K := fun d => ZyW L S rs fun ds => K (d.plain :: ds)) hk
  obtain ⟨ds, vs, h1, h2, h3, h4, h5⟩ := ZsO h hL rs _ hkd
  have hrun' : (do loadVar t (← asAddr (a.tmps.getD c undef)) : Sem Value).run P w = .ok v w := by
   have hp : ∃ p, a.tmps.getD c undef = .pointer (some p) := by
    have h6 := h.tmp c
    have hk2 := hk
    simp only [ZyW] at hk2
    obtain ⟨_, hk2⟩ := hk2
    cases hd : S.get c with
    | ptr n off => rw [hd] at h6; exact ⟨_, h6⟩
    | ref es => rw [hd] at h6; obtain ⟨b, o, h7, _⟩ := h6; exact ⟨_, h7⟩
    | ept n sz i off => rw [hd] at h6; exact ⟨_, h6⟩
    | bot => simp [hd] at hk2
    | c => simp [hd] at hk2
    | agg => simp [hd] at hk2
    | tup => simp [hd] at hk2
   obtain ⟨p, hp⟩ := hp
   simp only [Act.eval, hp, Instr.loadAt, Instr.sureAddr, Sem.run_bind, Sem.run_pure, Result.andThen_ok] at hrun
   simp only [hp, asAddr, Sem.run_bind, Sem.run_pure, Result.andThen_ok, hrun]
  refine ⟨_, v :: vs, h1, by simp [h2], by simp [h3], ?_, fun i d' hd => ?_⟩
  ·rw [List.mapM_cons]
   have hr1 : (Zsa a.tmps (.cell c t)).run P w = .ok v w := hrun'
   rw [Sem.run_bind, hr1, Result.andThen_ok, Sem.run_bind, h4]; rfl
  ·cases i with
   | zero =>
    simp only [List.getElem?_cons_zero, Option.some.injEq] at hd
    subst hd
    exact ⟨v, rfl, by cases d <;> exact hrep, fun t' k e he => by cases d <;> cases he⟩
   | succ i => exact h5 i d' (by simpa using hd)
end

def Zqx : Obj → Bool
 | .deferred _ | .loop _ => true
 | _ => false
theorem Zq5 {w : World} {b o : Nat} {x : Obj} (h : w.heap[b]? = some x) (hx : Zqx x = true) : w.cell? ⟨b, o, none⟩ = none := by
 simp only [World.cell?, h]
 cases x <;> first | rfl | cases hx
theorem Zf4.data {P : Program} {w : World} {St : ZaA} {ρ : Nat → Nat} {n : Nat} {cs : List Cell} (h : Zf4 P w St ρ n cs) : ∃ o, w.heap[ρ n]? = some o ∧ Zqx o = false := by
 cases h with
 | cells cs arr t h1 => exact ⟨_, h1, rfl⟩
 | row k rows cur h1 => exact ⟨_, h1, rfl⟩
 | map t kt vt d rows es clock l h0 hd h1 => exact ⟨_, h1, rfl⟩
 | iter s pos h0 h1 => exact ⟨_, h1, rfl⟩
theorem Own.data {P : Program} [Gl P] {B : Nat} {M0 : Nat → Prop} {w : World} {St : ZaA} {k : Nat} {e : E} {v : Value} (h : Own P B M0 w St k e v) : ∀ b, v.ownBlock = some b → ∃ o, w.heap[b]? = some o ∧ Zqx o = false := by
 intro b hb
 rcases h with ⟨rfl, _⟩ | ⟨g', cap, cur, rows, rfl, rfl, h1, h2, _⟩
 ·simp [Value.ownBlock] at hb
 ·simp only [Value.ownBlock, Option.some.injEq] at hb
  subst hb
  exact ⟨_, h2, rfl⟩
def Nd (w : World) (b : Nat) : Prop := ∃ o, w.heap[b]? = some o ∧ Zqx o = true
theorem Zvc {w : World} {b : Nat} (h : ∃ o, w.heap[b]? = some o ∧ Zqx o = false) : ¬ Nd w b := fun ⟨o, h1, h2⟩ => by
 obtain ⟨o', h3, h4⟩ := h
 rw [h1] at h3
 injection h3 with h3
 subst h3
 rw [h2] at h4; cases h4
section
variable {P : Program} [Gl P] {w0 w1 w2 : World} {M0 M1 M2 : Nat → Prop} {S0 S1 S2 : ZaA} {S : AS} {tm : Array Value} {w w' : World} {St : ZaA} {ρ : Nat → Nat}
theorem ZQ.world (h : ZQ P w0 M0 S0 S tm w St ρ) (Z : Nat → Prop) (h1 : w'.os = w.os) (h2 : w'.tape = w.tape) (h3 : w'.output = w.output) (h4 : w.heap.size ≤ w'.heap.size)
  (h5 : ∀ b, b < w.heap.size → ¬ Z b → w'.heap[b]? = w.heap[b]?) (h6 : ∀ b, Z b → w0.heap.size ≤ b ∧ Nd w b ∧ Nd w' b) : ZQ P w0 M0 S0 S tm w' St ρ := by
 have hst : ∀ b o, St b o → w'.cell? ⟨b, o, none⟩ = w.cell? ⟨b, o, none⟩ := fun b o hs => by
  by_cases hz : Z b
  ·obtain ⟨_, ⟨x, hx1, hx2⟩, y, hy1, hy2⟩ := h6 b hz
   rw [Zq5 hx1 hx2, Zq5 hy1 hy2]
  ·exact World.cell?_of_block (w := w) (w' := w') (a := ⟨b, o, none⟩) (h5 b (h.lt b o hs) hz)
 have c : ZQ P w Z St ⟨[], []⟩ #[] w' St ρ := {
  glob := h.glob.later h.up h.stay
  os := h1, tape := h2, output := h3, size := h4, old := h5
  stay := hst
  up := fun _ _ h => h
  dn := fun _ _ h _ => .inl h
  lt := fun b o hs => Nat.lt_of_lt_of_le (h.lt b o hs) h4
  tmp := fun i => trivial
  nm := fun n cs hn => by cases hn
  box := fun n cs hn => by cases hn
  inj := fun n m cs ds hn => by cases hn
  own := fun t k e v hh => by
   rcases hh with ⟨i, hi, _⟩ | ⟨n, cs, j, hn, _⟩
   ·cases hi
   ·cases hn
  apart := fun t k e v t' k' e' v' hh => by
   rcases hh with ⟨i, hi, _⟩ | ⟨n, cs, j, hn, _⟩
   ·cases hi
   ·cases hn
  ownbox := fun t k e v n cs hh hn => by cases hn }
 refine h.frame c (fun b hb => ?_) (fun t k e v hh b hb hz => ?_) (fun m cs hm hp hz => ?_)
 ·obtain ⟨h7, ⟨o, h8, _⟩, _⟩ := h6 b hb
  exact ⟨Zhd h8, .inl h7⟩
 ·exact Zvc ((h.own t k e v hh).data b hb) (h6 b hz).2.1
 ·exact Zvc (h.blk hm hp).2.2.2.data (h6 _ hz).2.1
theorem ZQ.alloc (h : ZQ P w0 M0 S0 S tm w St ρ) (o : Obj) : ZQ P w0 M0 S0 S tm (w.alloc o) St ρ :=
 h.world (fun _ => False) rfl rfl rfl (by simp [World.size_alloc]) (fun b hb _ => by show (w.heap.push o)[b]? = _; rw [Array.getElem?_push, if_neg (by omega)]) (fun b hb => hb.elim)
theorem ZQ.putNd (h : ZQ P w0 M0 S0 S tm w St ρ) {b : Nat} {o : Obj} (hb : w0.heap.size ≤ b) (hn : Nd w b) (ho : Zqx o = true) : ZQ P w0 M0 S0 S tm (w.putObj b o) St ρ :=
 h.world (· = b) rfl rfl rfl (by simp) (fun c _ hc => World.putObj_heap_other hc) (fun c hc => by
  subst hc
  exact ⟨hb, hn, o, World.putObj_heap_same (Zhd hn.choose_spec.1), ho⟩)
structure ZwU (P : Program) [Gl P] (w0 : World) (M0 : Nat → Prop) (S0 : ZaA) (w1 : World) (M1 : Nat → Prop) (S1 : ZaA) : Prop where
 glob : Zlh P w0 S0
 os : w1.os = w0.os
 tape : w1.tape = w0.tape
 output : w1.output = w0.output
 size : w0.heap.size ≤ w1.heap.size
 old : ∀ b, b < w0.heap.size → ¬ M0 b → w1.heap[b]? = w0.heap[b]?
 mle : ∀ b, M1 b → w0.heap.size ≤ b ∨ M0 b
 stay : ∀ b o, S0 b o → S1 b o ∧ w1.cell? ⟨b, o, none⟩ = w0.cell? ⟨b, o, none⟩
 dn : ∀ b o, S1 b o → b < w0.heap.size → S0 b o ∨ M0 b
def ZDZ (w0 : World) (M0 : Nat → Prop) (w : World) (b : Nat) : Prop := ¬ Nd w b ∧ (w0.heap.size ≤ b ∨ M0 b)
theorem ZQ.fwd (h : ZQ P w0 M0 S0 S tm w St ρ) : ZwU P w0 M0 S0 w (ZDZ w0 M0 w) St ∧ ZQ P w (ZDZ w0 M0 w) St S tm w St ρ := by
 refine ⟨⟨h.glob, h.os, h.tape, h.output, h.size, h.old, fun b hb => hb.2, fun b o hs => ⟨h.up b o hs, h.stay b o hs⟩, h.dn⟩, ?_⟩
 exact { h with
  glob := h.glob.later h.up h.stay
  os := rfl, tape := rfl, output := rfl, size := Nat.le_refl _
  old := fun _ _ _ => rfl
  stay := fun _ _ _ => rfl
  up := fun _ _ h => h
  dn := fun _ _ h _ => .inl h
  box := fun n cs hn => by
   rcases h.box n cs hn with h1 | ⟨h1, h2, h3, h4⟩
   ·exact .inl h1
   ·exact .inr ⟨h1, .inr ⟨Zvc h4.data, h2⟩, h3, h4⟩
  own := fun t k e v hh => by
   have h0 := h.own t k e v hh
   rcases h0 with h1 | ⟨g, cap, cur, rows, h1, h2, h3, h4, h5⟩
   ·exact .inl h1
   ·exact .inr ⟨g, cap, cur, rows, h1, h2, .inr ⟨Zvc ⟨_, h4, rfl⟩, h3⟩, h4, h5⟩ }
theorem ZQ.back (hB : ZwU P w0 M0 S0 w1 M1 S1) (h : ZQ P w1 M1 S1 S tm w St ρ) : ZQ P w0 M0 S0 S tm w St ρ := by
 have hM : ∀ b, w1.heap.size ≤ b ∨ M1 b → w0.heap.size ≤ b ∨ M0 b := fun b hb => by
  rcases hb with hb | hb
  ·exact .inl (Nat.le_trans hB.size hb)
  ·exact hB.mle b hb
 exact { h with
  glob := hB.glob
  os := h.os.trans hB.os, tape := h.tape.trans hB.tape, output := h.output.trans hB.output, size := Nat.le_trans hB.size h.size
  old := fun b hlt hm => (h.old b (Nat.lt_of_lt_of_le hlt hB.size) (fun hm1 => by
   rcases hB.mle b hm1 with h1 | h1
   ·omega
   ·exact hm h1)).trans (hB.old b hlt hm)
  stay := fun b o hs => (h.stay b o (hB.stay b o hs).1).trans (hB.stay b o hs).2
  up := fun b o hs => h.up b o (hB.stay b o hs).1
  dn := fun b o hs hlt => by
   rcases h.dn b o hs (Nat.lt_of_lt_of_le hlt hB.size) with h1 | h1
   ·exact hB.dn b o h1 hlt
   ·rcases hB.mle b h1 with h2 | h2
    ·omega
    ·exact .inr h2
  box := fun n cs hn => by
   rcases h.box n cs hn with h1 | ⟨h1, h2, h3⟩
   ·exact .inl h1
   ·exact .inr ⟨h1, hM _ h2, h3⟩
  own := fun t k e v hh => by
   rcases h.own t k e v hh with h1 | ⟨g, cap, cur, rows, h1, h2, h3, h4⟩
   ·exact .inl h1
   ·exact .inr ⟨g, cap, cur, rows, h1, h2, hM _ h3, h4⟩ }
def ZEs (P : Program) (d : Deferred) : Prop := ∀ (n : Nat) (w : World) (R : Ending → FrameMode → World → Prop), (∀ v, R (.returned v) .returning w) →
 ∃ fv cap f args, d.target = .fn fv cap ∧ (invoke d.target d.args).run P w = .ok (.enter f args) w ∧ CallsDIn Fence.wide n P f args .returning w R
def ZxQ (D : Nat) : Deferred := { target := .collected D, args := #[] }
inductive Zjk (P : Program) [Gl P] : List Deferred → World → (Nat → Prop) → ZaA → List Deferred → World → (Nat → Prop) → ZaA → Prop
 | refl (df : List Deferred) (w0 : World) (M0 : Nat → Prop) (S0 : ZaA) : Zjk P df w0 M0 S0 df w0 M0 S0
 | step {df df1 : List Deferred} {w0 w1 w2 : World} {M0 M1 M2 : Nat → Prop} {S0 S1 S2 : ZaA} {D : Nat} (h : Zjk P df w0 M0 S0 df1 w1 M1 S1) (hB : ZwU P w1 M1 S1 w2 M2 S2)
   (hD : w1.heap.size ≤ D) (hD2 : D < w2.heap.size) (hM : ¬ M2 D) (hH : w2.heap[D]? = some (.deferred (some []))) : Zjk P df w0 M0 S0 (ZxQ D :: df1) w2 M2 S2
 | quiet {df df1 : List Deferred} {w0 w1 : World} {M0 M1 : Nat → Prop} {S0 S1 : ZaA} {d : Deferred} (h : Zjk P df w0 M0 S0 df1 w1 M1 S1) (hq : ZEs P d) : Zjk P df w0 M0 S0 (d :: df1) w1 M1 S1
theorem Zjk.trans {df df1 df2 : List Deferred} (h : Zjk P df w0 M0 S0 df1 w1 M1 S1) (k : Zjk P df1 w1 M1 S1 df2 w2 M2 S2) : Zjk P df w0 M0 S0 df2 w2 M2 S2 := by
 induction k with
 | refl => exact h
 | step k hB hD hD2 hM hH ih => exact .step (ih h) hB hD hD2 hM hH
 | quiet k hq ih => exact .quiet (ih h) hq
theorem Zjk.leaves {n : Nat} {df : List Deferred} {fn : Func} {R : Ending → World → Prop} (h : Zjk P [] w0 M0 S0 df w1 M1 S1) (hr : ZQ P w1 M1 S1 S tm w St ρ)
  (hfin : ∀ w', ZQ P w0 M0 S0 S tm w' St ρ → ∃ v, (results fn tm).run P w' = .ok v w' ∧ R (.returned v) w') : LeavesInM Fence.wide n P fn tm R df .returning w := by
 generalize hdf : ([] : List Deferred) = df0 at h
 induction h generalizing w with
 | refl => subst hdf; exact hfin w hr
 | step h hB hD hD2 hM hH ih =>
  subst hdf
  have hH' := (hr.old _ hD2 hM).trans hH
  have hr' := hr.back hB
  refine ⟨by simp, .inl ⟨_, _, rfl, run_takeDeferred hH', ?_⟩⟩
  exact ih (hr'.putNd (o := .deferred none) hD ⟨_, hH', rfl⟩ rfl) hfin
 | quiet h hq ih =>
  subst hdf
  obtain ⟨fv, cap, f, args, h1, h2, h3⟩ := hq (n - 1) w (fun
   | .returned _, u', w' => LeavesInM Fence.wide n P fn tm R _ (settle u') w'
   | .panicked chain, u', w' => LeavesInM Fence.wide n P fn tm R _ (raised u' chain) w'
   | .outgrown, _, w' => R .outgrown w') (fun v => ih hr hfin)
  exact ⟨by simp, .inr ⟨fun h => (by cases h), fv, cap, f, args, h1, h2, fun _ _ => trivial, h3⟩⟩
def ZqO (P : Program) [Gl P] (nt : Nat) (df : List Deferred) (w0 : World) (M0 : Nat → Prop) (S0 : ZaA) (ρ0 : Nat → Nat) (Q : Exit → AS → Prop) : Exit → Act → World → Prop :=
 fun e a w => ∃ S df1 w1 M1 S1, Q e S ∧ Zjk P df w0 M0 S0 df1 w1 M1 S1 ∧ Zcv P nt df1 w1 M1 S1 ρ0 S a w
theorem Zn4 {nt : Nat} {df : List Deferred} {ρ0 : Nat → Nat} {Q : Exit → AS → Prop} {e : Exit} {a : Act} (h : post P nt df w0 M0 S0 ρ0 Q e a w) : ZqO P nt df w0 M0 S0 ρ0 Q e a w :=
 let ⟨S, h1, h2⟩ := h; ⟨S, df, w0, M0, S0, h1, .refl .., h2⟩
theorem ZqT {nt : Nat} {df df1 : List Deferred} {ρ0 : Nat → Nat} {Q : Exit → AS → Prop} {e : Exit} {a : Act} (hb : Zjk P df w0 M0 S0 df1 w1 M1 S1) (h : ZqO P nt df1 w1 M1 S1 ρ0 Q e a w) : ZqO P nt df w0 M0 S0 ρ0 Q e a w :=
 let ⟨S, df2, w2, M2, S2, h1, h2, h3⟩ := h; ⟨S, df2, w2, M2, S2, h1, hb.trans h2, h3⟩
end

section
variable {P : Program} [Gl P] {w0 : World} {M0 : Nat → Prop} {S0 : ZaA} {L : Tab} (hL : TOk P L) {ρ0 : Nat → Nat} {df : List Deferred} {Dr : Zsx}
theorem ZQ.result {S : AS} {tm : Array Value} {w : World} {St : ZaA} {ρ : Nat → Nat} (h : ZQ P w0 M0 S0 S tm w St ρ) {d : D} {v : Value} (hd : Zet w St ρ d v) (htok : ∀ t k e, d = .c (some (t, k)) e → Zcm S tm w ρ t k e v) :
  ZQ P w0 M0 S0 ⟨[(0, d)], S.boxes⟩ #[v] w St ρ := by
 have hheld : ∀ {t k : Nat} {e : E} {u : Value}, Zcm ⟨[(0, d)], S.boxes⟩ #[v] w ρ t k e u → Zcm S tm w ρ t k e u := fun hh => by
  rcases hh with ⟨i, hi, hv⟩ | ⟨n, cs, j, hbx, hj, hv⟩
  ·simp only [AS.get, Z2] at hi
   split at hi
   ·rename_i h0; subst h0
    simp only [Option.getD_some] at hi
    have : v = _ := hv.symm
    rw [hv]
    exact htok _ _ _ hi
   ·cases hi
  ·exact .inr ⟨n, cs, j, hbx, hj, hv⟩
 exact { glob := h.glob, os := h.os, tape := h.tape, output := h.output, size := h.size, old := h.old, stay := h.stay, up := h.up, dn := h.dn, lt := h.lt
         tmp := fun i => by
           simp only [AS.get, Z2]
           split
           · rename_i h0; subst h0; exact hd
           · exact trivial
         nm := h.nm
         box := h.box
         inj := h.inj
         own := fun t k e u hh => h.own _ _ _ _ (hheld hh)
         apart := fun t k e u t' k' e' u' hh hh' => h.apart _ _ _ _ _ _ _ _ (hheld hh) (hheld hh')
         ownbox := fun t k e u n cs hh hn => h.ownbox _ _ _ _ n cs (hheld hh) hn }
def ZCt (nmo : List (Nat × Nat)) : Bool :=
 ZsB (ZiE nmo) && ZsB (Zlm nmo) && (ZiE nmo).all (Nat.blt · CAP) && (Zlm nmo).all (Nat.blt · CAP) && nmo.all fun p => if ZlL p.2 then Nat.beq p.1 p.2 else true
def Zzc (nmo : List (Nat × Nat)) (S : AS) (K : D → ZbV → Prop) (r : D) : Prop :=
 ZCt nmo = true ∧ match ZhZ S (Zez nmo) nmo with
  | some bx => K (r.ren (Zez nmo)) bx
  | none => False
def Zzp (L : Tab) (rs : Array ResultVar) (K : D → ZbV → Prop) : Exit → AS → Prop
 | .normal, S => ZCS L S rs.toList fun r => ∃ nmo, Zzc nmo S K r
 | .ret, S => ZCS L S rs.toList fun r => ∃ nmo, Zzc nmo S K r
 | _, _ => False
theorem ZAP {S : AS} {w : World} {St : ZaA} {ρ : Nat → Nat} {r : D} {v : Value} {K : D → ZbV → Prop} {nmo : List (Nat × Nat)} (hk : Zzc nmo S K r) (h : ZQ P w0 M0 S0 ⟨[(0, r)], S.boxes⟩ #[v] w St ρ) :
  ∃ r' bx' ρ', K r' bx' ∧ (∀ n, EXT ≤ n → n < NEW → ρ' n = ρ n ∧ ρ' (CAP + n) = ρ (CAP + n)) ∧ ZQ P w0 M0 S0 ⟨[(0, r')], bx'⟩ #[v] w St ρ' := by
 obtain ⟨hok, hk⟩ := hk
 simp only [ZCt, Bool.and_eq_true] at hok
 obtain ⟨⟨⟨⟨hn1, hn2⟩, hc1⟩, hc2⟩, hex⟩ := hok
 split at hk
 case h_2 => exact hk.elim
 rename_i bx hbx
 have hn1 := Zin hn1
 have hn2 := Zin hn2
 rw [Zh2] at hn1 hc1
 rw [Zhj] at hn2 hc2
 have hcap : ∀ n c, (n, c) ∈ nmo → n < CAP ∧ c < CAP := fun n c hm => by
  have h1 := List.all_eq_true.1 hc1 n (List.mem_map.2 ⟨_, hm, rfl⟩)
  have h2 := List.all_eq_true.1 hc2 c (List.mem_map.2 ⟨_, hm, rfl⟩)
  exact ⟨by simpa using h1, by simpa using h2⟩
 let ρ' : Nat → Nat := fun m => if m < CAP then (match Zez (Zfm nmo) m with | some n => ρ n | none => ρ m) else (match Zez (Zfm nmo) (m - CAP) with | some n => ρ (CAP + n) | none => ρ m)
 have hsw : ∀ n c, (n, c) ∈ nmo → Zez (Zfm nmo) c = some n := fun n c hm => by
  refine Zk5 (by rw [ZeH, List.map_map]; exact hn2) ?_
  rw [ZeH]; exact List.mem_map.2 ⟨_, hm, rfl⟩
 have hlead : Zoj (Zez nmo) ρ ρ' := fun n c hm => by
  have hm := Zhl hm
  obtain ⟨h5, h6⟩ := hcap n c hm
  have h7 := hsw n c hm
  refine ⟨?_, ?_⟩
  ·simp only [ρ', if_pos h6, h7]
  ·have e1 : CAP + c - CAP = c := by omega
   simp only [ρ', if_neg (show ¬ CAP + c < CAP by omega), e1, h7]
 refine ⟨_, bx, ρ', hk, fun n h1 h2 => ?_, h.turn ⟨fun i => ?_, fun m cs hm => ?_, fun n n' m h5 h6 => ZsK hn2 h5 h6, fun n c h5 => (hcap _ _ (Zhl h5)).2⟩ hlead⟩
 ·have hc : n < CAP := by unfold CAP; unfold NEW at h2; omega
  have e1 : CAP + n - CAP = n := by omega
  simp only [ρ', if_pos hc, if_neg (show ¬ CAP + n < CAP by omega), e1]
  cases hs : Zez (Zfm nmo) n with
  | none => exact ⟨rfl, rfl⟩
  | some m =>
   have hm := Zhl hs
   rw [ZeH] at hm
   obtain ⟨⟨x, y⟩, h7, h8⟩ := List.mem_map.1 hm
   injection h8 with e2 e3; subst e2 e3
   have h9 := List.all_eq_true.1 hex (x, y) h7
   have h10 : ZlL y = true := by simp only [ZlL, Bool.and_eq_true, Nat.ble_eq, Nat.blt_eq]; exact ⟨h1, h2⟩
   simp only [h10, if_true] at h9
   have h9 := Nat.eq_of_beq_eq_true h9
   subst h9; exact ⟨rfl, rfl⟩
 ·simp only [AS.get, Z2]
  split
  ·rfl
  ·rfl
 ·obtain ⟨n, ds, h5, h6, h7⟩ := Zpq S (Zez nmo) nmo bx hbx m cs hm
  exact ⟨n, ds, Zk5 hn1 h5, h6, h7⟩
include hL in
theorem ZBH {f : FuncId} {fn : Func} {c : Code} (hf : P.funcs[f]? = some fn) (hb : fn.body = some c) (hname : (fn.name == "runtime.NumGoroutine") = false)
  {args : List D} {bx : ZbV} {K : D → ZbV → Prop} (hargs : args.length ≤ fn.ntmps)
  (hk : ∀ (df : List Deferred) (w0 : World) (M0 : Nat → Prop) (S0 : ZaA) (ρ0 : Nat → Nat) (a : Act) (w : World), Zcv P fn.ntmps df w0 M0 S0 ρ0 ⟨ZdY 0 args, bx⟩ a w → c.wp P (ZqO P fn.ntmps df w0 M0 S0 ρ0 (Zzp L fn.results K)) a w) : Zq P f args bx K := by
 refine ⟨⟨fn, hf, hname, by rw [hb]; rfl⟩, fun w S0 M0 ZcM ρ hv hr => ?_⟩
 refine callsIn_wide.1 (callsIn_of_wp_marks (F := Fence.wide) (n := 0) hf hb trivial (wpIn_wide.2 (wp_mono (hk [] w M0 S0 ρ _ w ?_) ?_)))
 ·refine ⟨rfl, by simp; omega, S0, ρ, ?_, fun _ _ _ => ⟨rfl, rfl⟩⟩
  have hget : ∀ i, (ZcM ++ Array.replicate (fn.ntmps - ZcM.size) undef).getD i undef = ZcM.getD i undef := fun i => by
   simp only [Array.getD_eq_getD_getElem?]
   by_cases hi : i < ZcM.size
   ·rw [Array.getElem?_append_left hi]
   ·rw [Array.getElem?_append_right (by omega), Array.getElem?_eq_none (xs := ZcM) (by omega), Array.getElem?_replicate]
    split <;> rfl
  have hheld : ∀ {t k : Nat} {e : E} {u : Value}, Zcm ⟨ZdY 0 args, bx⟩ (ZcM ++ Array.replicate (fn.ntmps - ZcM.size) undef) w ρ t k e u → Zcm ⟨ZdY 0 args, bx⟩ ZcM w ρ t k e u := fun hh => by
   rcases hh with ⟨i, hi, hv⟩ | h2
   ·exact .inl ⟨i, hi, by rw [hv, hget]⟩
   ·exact .inr h2
  exact { hr with
   tmp := fun i => by rw [hget]; exact hr.tmp i
   own := fun t k e u hh => hr.own _ _ _ _ (hheld hh)
   apart := fun t k e u t' k' e' u' hh hh' => hr.apart _ _ _ _ _ _ _ _ (hheld hh) (hheld hh')
   ownbox := fun t k e u n cs hh => hr.ownbox _ _ _ _ n cs (hheld hh) }
 ·have fin : ∀ (S : AS) (a : Act) (w' : World) (St : ZaA) (ρ' : Nat → Nat), ZCS L S fn.results.toList (fun r => ∃ nmo, Zzc nmo S K r) → ZQ P w M0 S0 S a.tmps w' St ρ' → (∀ n, EXT ≤ n → n < NEW → ρ' n = ρ n ∧ ρ' (CAP + n) = ρ (CAP + n)) →
      ∃ v, (results fn a.tmps).run P w' = .ok v w' ∧ ∃ v' r bx' St' ρ', Ending.returned v = .returned v' ∧ K r bx' ∧ (∀ n, EXT ≤ n → n < NEW → ρ' n = ρ n ∧ ρ' (CAP + n) = ρ (CAP + n)) ∧
        ZQ P w M0 S0 ⟨[(0, r)], bx'⟩ #[v'] w' St' ρ' := by
   intro S a w' St ρ' hk' h3 h4
   obtain ⟨ds, vs, h5, h6, h7, h8, h9⟩ := ZsO h3 hL _ _ hk'
   have hrun : (results fn a.tmps).run P w' = .ok (if h : vs.toArray.size = 1 then vs.toArray[0] else .tuple vs.toArray) w' := by
    have hm : (fn.results.mapM (Zsa a.tmps)).run P w' = .ok vs.toArray w' := by
     rw [Array.mapM_eq_mapM_toList, Sem.run_map, h8, Result.andThen_ok]
    have hres : results fn a.tmps = (do
      let vs ← fn.results.mapM (Zsa a.tmps)
      pure (if h : vs.size = 1 then vs[0] else .tuple vs)) := rfl
    rw [hres, Sem.run_bind, hm]
    simp only [Result.andThen_ok, Sem.run_pure]
   have finish : ∀ (r : D) (v : Value) (nmo : List (Nat × Nat)), Zzc nmo S K r → Zet w' St ρ' r v → (∀ t k e, r = .c (some (t, k)) e → Zcm S a.tmps w' ρ' t k e v) →
     ∃ v' r bx' St' ρ'', Ending.returned v = .returned v' ∧ K r bx' ∧ (∀ n, EXT ≤ n → n < NEW → ρ'' n = ρ n ∧ ρ'' (CAP + n) = ρ (CAP + n)) ∧ ZQ P w M0 S0 ⟨[(0, r)], bx'⟩ #[v'] w' St' ρ'' := fun r v nmo hr hrep hh => by
    obtain ⟨r', bx', ρ'', h10, h11, h12⟩ := ZAP hr (h3.result hrep hh)
    exact ⟨v, r', bx', St, ρ'', rfl, h10, fun n hn hn2 => ⟨(h11 n hn hn2).1.trans (h4 n hn hn2).1, (h11 n hn hn2).2.trans (h4 n hn hn2).2⟩, h12⟩
   match ds, h5, h6, h9 with
   | [], ⟨nmo, h5⟩, h6, h9 =>
    have hv0 : vs = [] := List.eq_nil_of_length_eq_zero (by rw [h7, ← h6]; rfl)
    subst hv0
    exact ⟨_, hrun, finish (.tup []) _ nmo h5 ⟨[], rfl, rfl, fun k x hk2 => by simp at hk2⟩ (fun _ _ _ he => by cases he)⟩
   | [d], ⟨nmo, h5⟩, h6, h9 =>
    obtain ⟨v, hv1, hv2, hv3⟩ := h9 0 d rfl
    have hv0 : vs = [v] := by
     match vs, h7, hv1 with
     | [u], _, hu => simp only [List.getElem?_cons_zero, Option.some.injEq] at hu; rw [hu]
     | [], h, _ => simp [← h6] at h
     | _ :: _ :: _, h, _ => simp [← h6] at h
    subst hv0
    exact ⟨_, hrun, finish d v nmo h5 hv2 hv3⟩
   | d1 :: d2 :: ds, ⟨nmo, h5⟩, h6, h9 =>
    have hne : ¬ vs.toArray.size = 1 := by simp [h7, ← h6]
    rw [dif_neg hne] at hrun
    refine ⟨_, hrun, finish (.tup ((d1 :: d2 :: ds).map D.x)) _ nmo h5 ⟨vs, rfl, by simp only [List.length_map]; rw [h6, h7], fun k x hk2 => ?_⟩ (fun _ _ _ he => by cases he)⟩
    rw [List.getElem?_map] at hk2
    cases hdk : (d1 :: d2 :: ds)[k]? with
    | none => rw [hdk] at hk2; cases hk2
    | some d =>
     rw [hdk] at hk2
     simp only [Option.map_some, Option.some.injEq] at hk2
     subst hk2
     obtain ⟨u, hu1, hu2, _⟩ := h9 k d hdk
     refine ⟨u, hu1, ?_⟩
     cases d with
     | c tk e => exact hu2
     | agg es => exact hu2
     | ptr n off => have hu2 : u = _ := hu2; subst hu2; exact .pt n off
     | _ => exact trivial
  rintro e a' w' ⟨S, df1, w1, M1, S1, hq, hreb, hdef, hsize, St, ρ', h3, h4⟩
  subst hdef
  cases e with
  | normal => exact hreb.leaves h3 fun w'' h5 => fin S a' w'' St ρ' hq h5 h4
  | ret => exact hreb.leaves h3 fun w'' h5 => fin S a' w'' St ρ' hq h5 h4
  | exit id => exact hq.elim
  | goto l => exact hq.elim
  | panic ch => exact hq.elim
  | outgrown => exact hq.elim
end

inductive Sh (L : Tab) : Nat → List E → Prop
 | bool (t : Nat) (b : Bool) (h : (L.ti t).k = .bool) : Sh L t [.v (.bool b)]
 | int (t : Nat) (k : IntKind) (n : Int) (h : (L.ti t).k = .int k) (hn : k.min ≤ n ∧ n ≤ k.max) : Sh L t [.v (.int k n)]
 | string (t : Nat) (s : ByteArray) (h : (L.ti t).k = .string) (hs : s.size ≤ maxLen) : Sh L t [.v (.string s)]
 | slice (t e : Nat) (rows : List (List E)) (h : (L.ti t).k = .slice e) (hl : rows.length ≤ maxLen) (hr : ∀ (i : Nat) (row : List E), rows[i]? = some row → Sh L e row) : Sh L t [.sl rows]
 | struct (t : Nat) (fs : List (Nat × Nat)) (parts : List (List E)) (h : (L.ti t).k = .struct fs) (hl : parts.length = fs.length) (hf : ∀ (i ft off : Nat) (part : List E), fs[i]? = some (ft, off) → parts[i]? = some part → Sh L ft part) : Sh L t parts.flatten
 | array (t n e : Nat) (parts : List (List E)) (h : (L.ti t).k = .array n e) (hl : parts.length = n) (hf : ∀ (i : Nat) (part : List E), parts[i]? = some part → Sh L e part) : Sh L t parts.flatten
def ZvX (L : Tab) (total : Nat) : Nat → List (Nat × Nat) → Bool
 | off, [] => off == total
 | off, (t, o) :: fs => o == off && ZvX L total (off + (L.ti t).size) fs
def simpleIn (L : Tab) (R : List Nat) : Bool := R.all fun t =>
 match (L.ti t).k with
 | .bool | .int _ | .string => true
 | .slice e => R.contains e && (L.ti e).size != 0
 | .array n e => R.contains e && n * (L.ti e).size == (L.ti t).size
 | .struct fs => ZvX L (L.ti t).size 0 fs && fs.all fun f => R.contains f.1
 | _ => false
def old (w : World) : ZaA := fun b _ => b < w.heap.size
theorem Zxi {α : Type} {p : Nat → α → Prop} : ∀ n, (∀ i, i < n → ∃ x, p i x) → ∃ l : List α, l.length = n ∧ ∀ i x, l[i]? = some x → p i x
 | 0, _ => ⟨[], rfl, fun i x h => by simp at h⟩
 | n + 1, h => by
  obtain ⟨l, hl, hp⟩ := Zxi n fun i hi => h i (by omega)
  obtain ⟨x, hx⟩ := h n (by omega)
  refine ⟨l ++ [x], by simp [hl], fun i y hy => ?_⟩
  rcases Nat.lt_or_ge i n with hi | hi
  ·rw [List.getElem?_append_left (by omega)] at hy; exact hp i y hy
  ·rw [List.getElem?_append_right (by omega)] at hy
   have : i = n := by
    rcases Nat.lt_or_ge (i - l.length) 1 with h1 | h1
    ·omega
    ·rw [List.getElem?_eq_none (by simpa using h1)] at hy; cases hy
   subst this
   rw [hl] at hy
   simp at hy; subst hy; exact hx
theorem ZgT.append {w : World} {St : ZaA} {a b : List E} {u v : List Value} (h : ZgT w St a u) (k : ZgT w St b v) : ZgT w St (a ++ b) (u ++ v) := by
 refine ⟨by simp [h.1, k.1], fun i e he => ?_⟩
 rcases Nat.lt_or_ge i a.length with hi | hi
 ·rw [List.getElem?_append_left hi] at he
  rw [List.getElem?_append_left (by rw [← h.1]; exact hi)]
  exact h.2 i e he
 ·rw [List.getElem?_append_right hi] at he
  rw [List.getElem?_append_right (by rw [← h.1]; exact hi), ← h.1]
  exact k.2 _ e he
mutual
def ZjO {H : Type} : DataW H → Nat
 | .lit (.string bytes) => bytes.length + 1
 | .lit _ => 1
 | .nil => 1
 | .ptr d => ZjO d + 1
 | .slice elems spare => bulks elems + bulks spare + 1
 | .agg parts => bulks parts + 1
 | .iface _ d => ZjO d + 1
 | .map entries => Zs5 entries + 1
 | .held _ => 1
def bulks {H : Type} : List (DataW H) → Nat
 | [] => 0
 | d :: r => ZjO d + bulks r
def Zs5 {H : Type} : List (Lit × DataW H) → Nat
 | [] => 0
 | x :: r => ZAC x + Zs5 r
def ZAC {H : Type} : Lit × DataW H → Nat
 | (.string bytes, d) => bytes.length + ZjO d + 1
 | (_, d) => ZjO d + 1
end
mutual
def ZlG : E → Nat
 | .v (.string s) => s.size + 1
 | .v _ => 1
 | .sl rows => ZfO rows + 1
 | .nils => 1
 | .ifc _ => 1
 | _ => 1
def Zcc : List E → Nat
 | [] => 0
 | e :: es => ZlG e + Zcc es
def ZfO : List (List E) → Nat
 | [] => 0
 | r :: rs => Zcc r + ZfO rs
end
theorem Zll : ∀ a b : List E, Zcc (a ++ b) = Zcc a + Zcc b
 | [], b => by simp [Zcc]
 | x :: a, b => by rw [List.cons_append, Zcc, Zcc, Zll a b]; omega
def ZtS (m : Nat → Nat) : Nat → Nat
 | 0 => 0
 | n + 1 => m 0 + ZtS (fun i => m (i + 1)) n
theorem Zui : ∀ (rows : List (List E)) (m : Nat → Nat), (∀ (i : Nat) (row : List E), rows[i]? = some row → Zcc row ≤ m i) → ZfO rows ≤ ZtS m rows.length
 | [], m, _ => by simp [ZfO]
 | r :: rs, m, h => by
  rw [ZfO, List.length_cons, ZtS]
  exact Nat.add_le_add (h 0 r rfl) (Zui rs _ fun i row hi => h (i + 1) row hi)
def mX {H β : Type} (xs : List (DataW H × β)) (i : Nat) : Nat := match xs[i]? with | some y => ZjO y.1 | none => 0
theorem ZrX {H β : Type} : ∀ xs : List (DataW H × β), ZtS (mX xs) xs.length = bulks (xs.map (·.1))
 | [] => by simp [ZtS, bulks]
 | x :: xs => by
  rw [List.length_cons, ZtS, List.map_cons, bulks, ← ZrX xs]
  rfl
theorem ZAW {H β : Type} {xs : List (DataW H × β)} {i : Nat} {y : DataW H × β} (h : xs[i]? = some y) : mX xs i = ZjO y.1 := by unfold mX; rw [h]
theorem Zug {w : World} {St : ZaA} {L : Tab} {cs : List Value} : ∀ (fs : List (Nat × Nat)) (off : Nat) (m : Nat → Nat), ZvX L cs.length off fs = true →
  (∀ (i ft o : Nat), fs[i]? = some (ft, o) → ∃ es, Sh L ft es ∧ ZgT w St es ((cs.drop o).take (L.ti ft).size) ∧ Zcc es ≤ m i) →
  ∃ parts : List (List E), parts.length = fs.length ∧ (∀ (i ft o : Nat) (part : List E), fs[i]? = some (ft, o) → parts[i]? = some part → Sh L ft part) ∧ ZgT w St parts.flatten (cs.drop off) ∧ Zcc parts.flatten ≤ ZtS m fs.length
 | [], off, m, hl, _ => by
  simp only [ZvX, beq_iff_eq] at hl
  exact ⟨[], rfl, fun i ft o part h => by simp at h, by subst hl; simp [ZgT], by simp [Zcc]⟩
 | (t, o) :: fs, off, m, hl, h => by
  simp only [ZvX, Bool.and_eq_true, beq_iff_eq] at hl
  obtain ⟨rfl, hl⟩ := hl
  obtain ⟨es, he, hr, hb⟩ := h 0 t o rfl
  obtain ⟨parts, h1, h2, h3, h4⟩ := Zug fs _ (fun i => m (i + 1)) hl fun i ft o' hi => h (i + 1) ft o' hi
  refine ⟨es :: parts, by simp [h1], fun i ft o' part hi hp => ?_, ?_, by rw [List.flatten_cons, Zll, List.length_cons, ZtS]; omega⟩
  ·cases i with
   | zero => simp only [List.getElem?_cons_zero, Option.some.injEq, Prod.mk.injEq] at hi hp; obtain ⟨rfl, rfl⟩ := hi; subst hp; exact he
   | succ i => exact h2 i ft o' part hi hp
  ·have := hr.append h3
   rw [List.flatten_cons]
   rwa [show List.drop (o + (L.ti t).size) cs = List.drop (L.ti t).size (List.drop o cs) by rw [List.drop_drop], List.take_append_drop] at this
theorem Zv2 {w : World} {St : ZaA} {L : Tab} {e sz : Nat} : ∀ (n : Nat) (cs : List Value) (m : Nat → Nat), cs.length = n * sz →
  (∀ i, i < n → ∃ es, Sh L e es ∧ ZgT w St es ((cs.drop (i * sz)).take sz) ∧ Zcc es ≤ m i) →
  ∃ parts : List (List E), parts.length = n ∧ (∀ (i : Nat) (part : List E), parts[i]? = some part → Sh L e part) ∧ ZgT w St parts.flatten cs ∧ Zcc parts.flatten ≤ ZtS m n
 | 0, cs, m, hl, _ => ⟨[], rfl, fun i part h => by simp at h, by
   have : cs = [] := List.eq_nil_of_length_eq_zero (by simpa using hl)
   subst this; simp [ZgT], by simp [Zcc]⟩
 | n + 1, cs, m, hl, h => by
  obtain ⟨es, he, hr, hb⟩ := h 0 (by omega)
  obtain ⟨parts, h1, h2, h3, h4⟩ := Zv2 n (cs.drop sz) (fun i => m (i + 1)) (by rw [List.length_drop, hl, Nat.succ_mul, Nat.add_sub_cancel]) fun i hi => by
   obtain ⟨es, he, hr, hb⟩ := h (i + 1) (by omega)
   refine ⟨es, he, ?_, hb⟩
   rwa [List.drop_drop, show sz + i * sz = (i + 1) * sz by rw [Nat.succ_mul]; omega]
  refine ⟨es :: parts, by simp [h1], fun i part hp => ?_, ?_, by rw [List.flatten_cons, Zll, ZtS]; omega⟩
  ·cases i with
   | zero => simp only [List.getElem?_cons_zero, Option.some.injEq] at hp; subst hp; exact he
   | succ i => exact h2 i part hp
  ·have := hr.append h3
   rw [List.flatten_cons]
   simpa [Nat.zero_mul] using this
section
variable {H : Type} {enc : TypeId × Value → H} {P : Program} [Gl P] {w : World} {L : Tab} (hL : TOk P L) {R : List Nat} (hR : simpleIn L R = true)
theorem Ty.cells {t : Nat} {d : TypeDesc} {ti : TypeInfo} {i : TI} (h : Ty P i t d ti) : P.cellsOf t = i.size := by
 simp [Program.cellsOf, h.info, h.size]
include hL hR in
theorem Zj8 {t : Nat} (ht : R.contains t = true) : ∃ d ti, Ty P (L.ti t) t d ti := by
 refine hL.ty (.inl ?_)
 have := List.all_eq_true.1 hR t (by simpa using ht)
 unfold TI.known
 split at this <;> simp_all
include hL hR in
theorem Zxu {spare : Nat → Bool} {held : Bool} : ∀ (fuel t : Nat) (cs : List Value) (x : DataW H × List MemPlace), R.contains t = true → DataW.trod enc P w 0 spare held fuel t cs = some x →
  ∃ es, Sh L t es ∧ ZgT w (old w) es cs ∧ Zcc es ≤ ZjO x.1 := by
 intro fuel
 induction fuel with
 | zero => intro t cs x _ h; simp [DataW.trod] at h
 | succ fuel ih =>
  intro t cs x ht h
  obtain ⟨d, ti, hty⟩ := Zj8 hL hR ht
  have hs := List.all_eq_true.1 hR t (by simpa using ht)
  have one : ∀ (e : E) (v : Value), Zdo w (old w) e v → ZgT w (old w) [e] [v] := fun e v hr => ⟨rfl, fun k e' hk => by
   cases k with
   | zero => simp only [List.getElem?_cons_zero, Option.some.injEq] at hk; subst hk; exact ⟨v, rfl, hr⟩
   | succ k => simp at hk⟩
  have hk := hty.k
  have hu := hty.und
  unfold DataW.trod at h
  cases hd : d with
  | bool =>
   subst hd
   rw [hu] at h
   match cs, h with
   | [.bool b], h =>
    simp only [Option.some.injEq] at h; subst h
    exact ⟨_, .bool t b hk, one _ _ (.v _ rfl), by simp [Zcc, ZlG, ZjO]⟩
  | int k =>
   subst hd
   rw [hu] at h
   match cs, h with
   | [.int k' n], h =>
    simp only at h
    split at h
    ·rename_i hc; obtain ⟨rfl, hc⟩ := hc; simp only [Option.some.injEq] at h; subst h; exact ⟨_, .int t _ _ hk (by simpa [Lit.wf] using hc), one _ _ (.v _ rfl), by simp [Zcc, ZlG, ZjO]⟩
    ·cases h
  | string =>
   subst hd
   rw [hu] at h
   match cs, h with
   | [.string s], h =>
    simp only at h
    split at h
    ·rename_i hc; simp only [Option.some.injEq] at h; subst h; exact ⟨_, .string t _ hk hc, one _ _ (.v _ rfl), by simp [Zcc, ZlG, ZjO]⟩
    ·cases h
  | slice e =>
   subst hd
   rw [hu] at h
   rw [hk] at hs
   simp only [ZhK, Bool.and_eq_true, bne_iff_ne, ne_eq] at hs
   obtain ⟨he, hsz⟩ := hs
   obtain ⟨de, tie, hte⟩ := Zj8 hL hR he
   match cs, h with
   | [.slice none 0 0], h =>
    simp only [Option.some.injEq] at h; subst h
    exact ⟨_, .slice t e [] hk (by simp) (fun i row hi => by simp at hi), one _ _ (.sl [] none 0 0 0 0 0 (fun _ _ => undef) rfl (by omega) (by simp) (fun h0 => by omega) (fun i row hi => by simp at hi) (fun i k row e hi => by simp at hi) (fun i k row e hi => by simp at hi)), by simp [Zcc, ZlG, ZfO, ZjO]⟩
   | [.slice (some a) len cap], h =>
    simp only at h
    split at h
    case isFalse => cases h
    rename_i hc
    obtain ⟨_, hlc, hcm⟩ := hc
    simp only [Option.bind_eq_some_iff] at h
    obtain ⟨elems, helems, hrest⟩ := h
    simp only [Option.map_eq_some_iff] at hrest
    obtain ⟨rest, _, hx⟩ := hrest
    have hget := mapM_some_get helems
    have hlen := mapM_some_length helems
    simp only [List.length_range] at hlen
    have row_of : ∀ i, i < len → ∃ row : List E, Sh L e row ∧ Zcc row ≤ mX elems i ∧ ∃ vs : List Value, w.cells? 0 (a.add (i * P.cellsOf e)) (P.cellsOf e) = some vs ∧ ZgT w (old w) row vs := fun i hi => by
     have h1 := hget i i (by rw [List.getElem?_range hi])
     rw [List.getElem?_eq_getElem (by omega : i < elems.length)] at h1
     simp only [Option.bind_eq_some_iff] at h1
     obtain ⟨vs, h2, h3⟩ := h1
     obtain ⟨row, h4, h5, h6⟩ := ih e vs _ he h3
     exact ⟨row, h4, by rw [ZAW (List.getElem?_eq_getElem (by omega : i < elems.length))]; exact h6, vs, h2, h5⟩
    obtain ⟨rows, hrl, hrows⟩ := Zxi len row_of
    have hcell : ∀ (i k : Nat) (row : List E) (x : E), rows[i]? = some row → row[k]? = some x → ∃ u, w.cell? ((a.add (i * P.cellsOf e)).add k) = some u ∧ Zdo w (old w) x u := fun i k row x hi hx => by
     obtain ⟨_, _, vs, h1, h2⟩ := hrows i row hi
     obtain ⟨u, hu1, hu2⟩ := h2.2 k x hx
     unfold World.cells? at h1
     rw [if_pos (Nat.zero_le _)] at h1
     have hkl : k < P.cellsOf e := by
      have := mapM_some_length h1
      rw [List.length_range] at this
      rw [← this]
      exact (List.getElem?_eq_some_iff.1 hu1).1
     have h3 := mapM_some_get h1 k k (by rw [List.getElem?_range hkl])
     exact ⟨u, h3.trans hu1, hu2⟩
    have hrow : ∀ (i : Nat) (row : List E), rows[i]? = some row → row.length = (L.ti e).size := fun i row hi => by
     obtain ⟨_, _, vs, h1, h2⟩ := hrows i row hi
     unfold World.cells? at h1
     rw [if_pos (Nat.zero_le _)] at h1
     have := mapM_some_length h1
     rw [List.length_range] at this
     rw [h2.1, this, hte.cells]
    have hspot : 0 < len → a.spot = none := fun h0 => by
     obtain ⟨row, hr0⟩ : ∃ row, rows[0]? = some row := ⟨_, List.getElem?_eq_getElem (by omega)⟩
     have h1 := hrow 0 row hr0
     obtain ⟨x, hx⟩ : ∃ x, row[0]? = some x := ⟨_, List.getElem?_eq_getElem (by omega)⟩
     obtain ⟨u, h2, _⟩ := hcell 0 0 row x hr0 hx
     simp only [Nat.zero_mul, Addr.add, if_true] at h2
     unfold World.cell? at h2
     split at h2
     ·split at h2
      ·cases h2
      ·rename_i hn; simpa using hn
     ·cases h2
    have hadd : ∀ i k, 0 < len → (a.add (i * P.cellsOf e)).add k = ⟨a.block, a.off + i * (L.ti e).size + k, none⟩ := fun i k h0 => by
     have ha : a = ⟨a.block, a.off, none⟩ := by have := hspot h0; cases a; simp_all
     rw [ha, ZfD, ZfD, hte.cells]
    refine ⟨_, .slice t e rows hk (by omega) (fun i row hi => (hrows i row hi).1), one _ _ (.sl rows (some a) len cap (L.ti e).size a.block a.off (fun i k => (w.cell? ⟨a.block, a.off + i * (L.ti e).size + k, none⟩).getD undef) hrl hlc hcm
     (fun h0 => by have := hspot h0; cases a; simp_all) hrow (fun i k row x hi hx => ?_) (fun i k row x hi hx => ?_)), ?_⟩
    rotate_right
    ·have h1 := Zui rows (mX elems) fun i row hi => (hrows i row hi).2.1
     rw [hrl, show len = elems.length by omega, ZrX] at h1
     subst hx
     simp only [Zcc, ZlG, ZjO]; omega
    ·have h0 : 0 < len := by rw [← hrl]; exact Nat.lt_of_le_of_lt (Nat.zero_le i) (List.getElem?_eq_some_iff.1 hi).1
     obtain ⟨u, h1, h2⟩ := hcell i k row x hi hx
     rw [hadd i k h0] at h1
     refine ⟨World.block_lt_of_cell? w ⟨a.block, a.off + i * (L.ti e).size + k, none⟩ h1, by rw [h1]; rfl⟩
    ·have h0 : 0 < len := by rw [← hrl]; exact Nat.lt_of_le_of_lt (Nat.zero_le i) (List.getElem?_eq_some_iff.1 hi).1
     obtain ⟨u, h1, h2⟩ := hcell i k row x hi hx
     rw [hadd i k h0] at h1
     rw [h1]; exact h2
  | struct fs =>
   subst hd
   rw [hu] at h
   rw [hk] at hs
   simp only [ZhK, Bool.and_eq_true] at hs
   obtain ⟨hlaid, hin⟩ := hs
   simp only at h
   split at h
   case isFalse => cases h
   rename_i hlen
   simp only [Option.map_eq_some_iff] at h
   obtain ⟨xs, hxs, hx⟩ := h
   have hget := mapM_some_get hxs
   have hlx := mapM_some_length hxs
   obtain ⟨parts, h1, h2, h3, h6⟩ := Zug (w := w) (St := old w) (L := L) (cs := cs) (fs.toList.map fun f => (f.type, f.offset)) 0 (mX xs) (by rw [hlen, hty.cells]; exact hlaid) fun i ft o hi => by
    rw [List.getElem?_map] at hi
    cases hf : fs.toList[i]? with
    | none => rw [hf] at hi; cases hi
    | some f =>
     rw [hf] at hi
     simp only [Option.map_some, Option.some.injEq, Prod.mk.injEq] at hi
     obtain ⟨rfl, rfl⟩ := hi
     have h1 := hget i f hf
     have hc : R.contains f.type = true := by
      refine List.all_eq_true.1 hin (f.type, f.offset) (List.mem_map.2 ⟨f, List.mem_of_getElem? hf, rfl⟩)
     obtain ⟨df, tif, htf⟩ := Zj8 hL hR hc
     cases hx : xs[i]? with
     | none =>
      have := mapM_some_length hxs
      have := (List.getElem?_eq_some_iff.1 hf).1
      have := List.getElem?_eq_none_iff.1 hx
      omega
     | some y =>
      rw [hx] at h1
      obtain ⟨es, h4, h5, h6⟩ := ih f.type _ y hc h1
      exact ⟨es, h4, by rwa [htf.cells] at h5, by rw [ZAW hx]; exact h6⟩
   rw [List.length_map, ← hlx, ZrX] at h6
   subst hx
   exact ⟨_, .struct t _ parts hk h1 h2, by simpa using h3, by simp only [ZjO]; omega⟩
  | array n e =>
   subst hd
   rw [hu] at h
   rw [hk] at hs
   simp only [ZhK, Bool.and_eq_true, beq_iff_eq] at hs
   obtain ⟨hin, hsz⟩ := hs
   obtain ⟨de, tie, hte⟩ := Zj8 hL hR hin
   simp only at h
   split at h
   case isFalse => cases h
   rename_i hlen
   simp only [Option.map_eq_some_iff] at h
   obtain ⟨xs, hxs, hx⟩ := h
   have hget := mapM_some_get hxs
   have hlx := mapM_some_length hxs
   rw [List.length_range] at hlx
   obtain ⟨parts, h1, h2, h3, h6⟩ := Zv2 (w := w) (St := old w) (L := L) (e := e) (sz := (L.ti e).size) n cs (mX xs) (by rw [hlen, hty.cells]; exact hsz.symm) fun i hi => by
    have h1 := hget i i (by rw [List.getElem?_range hi])
    rw [List.getElem?_eq_getElem (by omega : i < xs.length), hte.cells] at h1
    rw [ZAW (List.getElem?_eq_getElem (by omega : i < xs.length))]
    exact ih e _ _ hin h1
   rw [← hlx, ZrX] at h6
   subst hx
   exact ⟨_, .array t n e parts hk h1 h2, h3, by simp only [ZjO]; omega⟩
  | _ => subst hd; rw [hk] at hs; simp [ZhK] at hs
include hL hR in
theorem arg_c {base : Nat} {ρ : Nat → Nat} {spare : Nat → Bool} {held : Bool} {t : Nat} {v : Value} {d : DataW H} {ps : List MemPlace} (ht : R.contains t = true) (hagg : (L.ti t).isAgg = false) (hok : Value.okWide P w .any base t v)
  (h : DataW.Trod enc P w 0 spare held t v d ps) : ∃ e, Sh L t [e] ∧ Zet w (old w) ρ (.c none e) v ∧ Zcc [e] ≤ ZjO d := by
 obtain ⟨fuel, h⟩ := h
 obtain ⟨es, h1, h2, hb⟩ := Zxu hL hR fuel t _ _ ht h
 obtain ⟨d', ti, hty⟩ := Zj8 hL hR ht
 have hv : v.cells = #[v] := by
  have hk := hty.k
  unfold Value.okWide at hok
  rw [hty.und] at hok
  cases v with
  | agg cs =>
   unfold TI.isAgg at hagg
   rw [hk] at hagg
   cases d' <;> simp_all [ZhK, Cell.okWide, Cell.ok]
  | _ => rfl
 rw [hv] at h2
 match es, h1, h2, hb with
 | [e], h1, h2, hb =>
  obtain ⟨u, hu, hr⟩ := h2.2 0 e rfl
  simp only [List.getElem?_cons_zero, Option.some.injEq] at hu
  subst hu
  exact ⟨e, h1, .e _ _ hr, hb⟩
 | [], _, h2, _ => exact absurd h2.1 (by simp)
 | _ :: _ :: _, _, h2, _ => exact absurd h2.1 (by simp)
include hL hR in
theorem arg_agg {base : Nat} {ρ : Nat → Nat} {spare : Nat → Bool} {held : Bool} {t : Nat} {v : Value} {d : DataW H} {ps : List MemPlace} (ht : R.contains t = true) (hagg : (L.ti t).isAgg = true) (hok : Value.okWide P w .any base t v)
  (h : DataW.Trod enc P w 0 spare held t v d ps) : ∃ es, Sh L t es ∧ Zet w (old w) ρ (.agg es) v ∧ Zcc es ≤ ZjO d := by
 obtain ⟨fuel, h⟩ := h
 obtain ⟨es, h1, h2, hb⟩ := Zxu hL hR fuel t _ _ ht h
 obtain ⟨d', ti, hty⟩ := Zj8 hL hR ht
 obtain ⟨cs, rfl⟩ : ∃ cs, v = .agg cs := by
  have hk := hty.k
  unfold Value.okWide at hok
  rw [hty.und] at hok
  unfold TI.isAgg at hagg
  rw [hk] at hagg
  cases d' <;> simp_all [ZhK]
  ·obtain ⟨cs, rfl, _⟩ := hok; exact ⟨cs, rfl⟩
  ·obtain ⟨cs, rfl, _⟩ := hok; exact ⟨cs, rfl⟩
 exact ⟨es, h1, ⟨cs.toList, by simp, .of h2⟩, hb⟩
def D.tokless : D → Bool
 | .c (some _) _ => false
 | _ => true
theorem Zyi {ρ : Nat → Nat} {args : List D} {ZcM : Array Value} (hn : args.all D.tokless = true) (hr : ∀ i, Zet w (old w) ρ ((⟨ZdY 0 args, []⟩ : AS).get i) (ZcM.getD i undef)) (hG : Zlh P w (old w)) :
  ZQ P w (fun _ => False) (old w) ⟨ZdY 0 args, []⟩ ZcM w (old w) ρ := by
 have look_at : ∀ (l : List D) (j i : Nat) (d : D), Z2 (ZdY j l) i = some d → d ∈ l := by
  intro l
  induction l with
  | nil => intro j i d h; simp [ZdY, Z2] at h
  | cons a l ih =>
   intro j i d h
   simp only [ZdY, Z2] at h
   split at h
   ·simp only [Option.some.injEq] at h; subst h; simp
   ·exact List.mem_cons_of_mem _ (ih _ _ _ h)
 have hno : ∀ {t k : Nat} {e : E} {v : Value}, ¬ Zcm (⟨ZdY 0 args, []⟩ : AS) ZcM w ρ t k e v := by
  rintro t k e v (⟨i, hi, _⟩ | ⟨n, cs, j, hb, _⟩)
  ·simp only [AS.get] at hi
   cases hl : Z2 (ZdY 0 args) i with
   | none => rw [hl] at hi; cases hi
   | some d =>
    rw [hl] at hi
    simp only [Option.getD_some] at hi
    subst hi
    have := List.all_eq_true.1 hn _ (look_at _ _ _ _ hl)
    simp [D.tokless] at this
  ·simp [AS.box, Z2] at hb
 exact { glob := hG, os := rfl, tape := rfl, output := rfl, size := Nat.le_refl _, old := fun _ _ _ => rfl, stay := fun _ _ _ => rfl, up := fun _ _ h => h, dn := fun _ _ h _ => .inl h, lt := fun _ _ h => h
         tmp := hr, nm := fun n cs hb => by simp [AS.box, Z2] at hb
         box := fun n cs hb => by simp [AS.box, Z2] at hb, inj := fun n m cs ds hb => by simp [AS.box, Z2] at hb
         own := fun t k e v hh => (hno hh).elim, apart := fun t k e v t' k' e' v' hh => (hno hh).elim, ownbox := fun t k e v n cs hh => (hno hh).elim }
theorem law_calls {f : FuncId} {args : List D} {ZcM : Array Value} {ρ : Nat → Nat} (hn : args.all D.tokless = true) (hs : ZcM.size = args.length) (hr : ∀ i, Zet w (old w) ρ ((⟨ZdY 0 args, []⟩ : AS).get i) (ZcM.getD i undef)) (hG : Zlh P w (old w))
  (h : CallsA P f args fun r => r = .c none (.v (.bool true))) : Calls P f ZcM w fun e w' => e = .returned (.bool true) ∧ Below w.heap.size w w' := by
 refine (h.runs w (old w) (fun _ => False) ZcM ρ hs (Zyi hn hr hG)).mono ?_
 rintro e w' ⟨v, r, bx', St', ρ', rfl, rfl, _, hrel⟩
 have h0 := hrel.tmp 0
 have : v = .bool true := by
  have := ZfF (d := .c none (.v (.bool true))) (y := .bool true) h0 rfl
  exact this.1
 exact ⟨by rw [this], hrel.os, hrel.tape, hrel.output, hrel.size, fun k hk => hrel.old k hk (fun h => h)⟩
end
theorem ZIC {α : Type} {l : List α} (h : l.length = 2) : ∃ a b, l = [a, b] := by
 match l, h with | [a, b], _ => exact ⟨a, b, rfl⟩
theorem ZHi {α : Type} {l : List α} (h : l.length = 5) : ∃ a b c d e, l = [a, b, c, d, e] := by
 match l, h with | [a, b, c, d, e], _ => exact ⟨a, b, c, d, e, rfl⟩
theorem ZnX {L : Tab} {t : Nat} {es : List E} (h : Sh L t es) {k : IntKind} (hk : (L.ti t).k = .int k) : ∃ n, es = [.v (.int k n)] ∧ k.min ≤ n ∧ n ≤ k.max := by
 cases h with
 | int _ k' n h hn => rw [hk] at h; injection h with h; subst h; exact ⟨n, rfl, hn⟩
 | bool _ _ h => rw [hk] at h; cases h
 | string _ _ h => rw [hk] at h; cases h
 | slice _ _ _ h => rw [hk] at h; cases h
 | struct _ _ _ h => rw [hk] at h; cases h
 | array _ _ _ _ h => rw [hk] at h; cases h
theorem ZB5 {L : Tab} {t : Nat} {es : List E} (h : Sh L t es) (hk : (L.ti t).k = .bool) : ∃ b, es = [.v (.bool b)] := by
 cases h with
 | bool _ b h => exact ⟨b, rfl⟩
 | int _ _ _ h => rw [hk] at h; cases h
 | string _ _ h => rw [hk] at h; cases h
 | slice _ _ _ h => rw [hk] at h; cases h
 | struct _ _ _ h => rw [hk] at h; cases h
 | array _ _ _ _ h => rw [hk] at h; cases h
theorem Zj9 {L : Tab} {t : Nat} {es : List E} (h : Sh L t es) (hk : (L.ti t).k = .string) : ∃ s : ByteArray, es = [.v (.string s)] ∧ s.size ≤ maxLen := by
 cases h with
 | string _ s h hs => exact ⟨s, rfl, hs⟩
 | bool _ _ h => rw [hk] at h; cases h
 | int _ _ _ h => rw [hk] at h; cases h
 | slice _ _ _ h => rw [hk] at h; cases h
 | struct _ _ _ h => rw [hk] at h; cases h
 | array _ _ _ _ h => rw [hk] at h; cases h
theorem ZtK {L : Tab} {t e : Nat} {es : List E} (h : Sh L t es) (hk : (L.ti t).k = .slice e) : ∃ rows, es = [.sl rows] ∧ rows.length ≤ maxLen ∧ ∀ row ∈ rows, Sh L e row := by
 cases h with
 | slice _ e' rows h hl hr => rw [hk] at h; injection h with h; subst h; exact ⟨rows, rfl, hl, fun row hm => by obtain ⟨i, hi, rfl⟩ := List.mem_iff_getElem.1 hm; exact hr i _ (List.getElem?_eq_getElem hi)⟩
 | bool _ _ h => rw [hk] at h; cases h
 | int _ _ _ h => rw [hk] at h; cases h
 | string _ _ h => rw [hk] at h; cases h
 | struct _ _ _ h => rw [hk] at h; cases h
 | array _ _ _ _ h => rw [hk] at h; cases h
theorem Zqg {L : Tab} {t : Nat} {fs : List (Nat × Nat)} {es : List E} (h : Sh L t es) (hk : (L.ti t).k = .struct fs) :
  ∃ parts : List (List E), es = parts.flatten ∧ parts.length = fs.length ∧ ∀ (i ft off : Nat) (part : List E), fs[i]? = some (ft, off) → parts[i]? = some part → Sh L ft part := by
 cases h with
 | struct _ fs' parts h hl hf => rw [hk] at h; injection h with h; subst h; exact ⟨parts, rfl, hl, hf⟩
 | bool _ _ h => rw [hk] at h; cases h
 | int _ _ _ h => rw [hk] at h; cases h
 | string _ _ h => rw [hk] at h; cases h
 | slice _ _ _ h => rw [hk] at h; cases h
 | array _ _ _ _ h => rw [hk] at h; cases h
theorem ZH0 {α : Type} {l : List α} (h : l.length = 3) : ∃ a b c, l = [a, b, c] := by
 match l, h with | [a, b, c], _ => exact ⟨a, b, c, rfl⟩
theorem ZkK {α : Type} {f : α → List E} : ∀ rows : List (List E), (∀ row ∈ rows, ∃ x, row = f x) → ∃ l : List α, rows = l.map f
 | [], _ => ⟨[], rfl⟩
 | r :: rs, h => by
  obtain ⟨x, rfl⟩ := h r (by simp)
  obtain ⟨l, rfl⟩ := ZkK rs fun row hm => h row (by simp [hm])
  exact ⟨x :: l, rfl⟩

def Zcs (o : Oper) : List Nat := (o.after.toList.filter (Region.binds .any)).map (·.on)
def ZHA (x : Nat) (r : List Nat) : List Nat := if r.contains x then r else x :: r
def nub : List Nat → List Nat
 | [] => []
 | x :: l => ZHA x (nub l)
theorem Zx7 {k : Nat} : ∀ {l : List Nat}, k ∈ nub l ↔ k ∈ l
 | [] => Iff.rfl
 | x :: l => by
  have ih := Zx7 (k := k) (l := l)
  rw [nub, ZHA, List.mem_cons]
  split
  ·rename_i h
   have hx : x ∈ nub l := by simpa using h
   exact ⟨fun h => .inr (ih.1 h), fun h => h.elim (fun e => e ▸ hx) ih.2⟩
  ·rw [List.mem_cons, ih]
def Zh9 : List Oper → List (List Nat) → List (List Nat)
 | [], acc => acc
 | o :: os, acc => Zh9 os (acc ++ [nub (Zcs o ++ (Zcs o).flatMap fun j => acc.getD j [])])
def ZD2 (ops : Array Oper) : List (List Nat) := Zh9 ops.toList []
def Zct (ops : Array Oper) (i : Nat) : List Nat := (ZD2 ops).getD i []
def ZeZ (o : Oper) : List Nat := o.op.operands.toList.filterMap fun | .tmp t => some t | _ => none
def ZB1 (ops : Array Oper) (m : Nat) (tch : List (List Nat)) : Bool :=
 (List.range m).all fun i => (List.range m).all fun j => i == j || (tch.getD i []).all fun n => !(tch.getD j []).contains n || (Zct ops i).contains j || (Zct ops j).contains i
def Zng (ops : Array Oper) (m : Nat) (tch : List (List Nat)) (i : Nat) : List Nat :=
 (List.range m).flatMap fun j => if j == i || (Zct ops i).contains j || (Zct ops j).contains i then [] else tch.getD j []
def ZsZ (ops : Array Oper) (m : Nat) (tch : List (List Nat)) : Bool :=
 ZB1 ops m tch && decide (m ≤ ops.size) &&
 (List.range ops.size).all fun i =>
  match ops[i]? with
  | none => false
  | some o =>
   (Zcs o).all (· < i) &&
   (match o.guard with | some (j, _) => (Zct ops i).contains j && decide (j < i) | none => true) &&
   (if m ≤ i then (List.range i).all fun j => (Zct ops i).contains j
    else (match o.dst with | some t => !(ZeZ o).contains t | none => true) && (List.range m).all fun j => j == i || (match (ops[j]?).bind (·.dst) with
     | some t => !(o.dst == some t) && (!(ZeZ o).contains t || (Zct ops i).contains j) && (match o.guard with | some (g, _) => !((ops[g]?).bind (·.dst) == some t) || (Zct ops i).contains j | none => true)
     | none => true))
abbrev Upd := List (Nat × List E)
def Zi4 (cs : List Cell) : List Cell := cs.map fun c => (none, c.2)
def ZqG : ZbV → ZbV
 | [] => []
 | (n, cs) :: l => (n, Zi4 cs) :: ZqG l
def Ztx (bx : ZbV) (f : Nat → Option Nat) : List (Nat × Nat) → Option Upd
 | [] => some []
 | (n, c) :: nm => match Z2 bx c, Ztx bx f nm with
  | some cs, some us => some ((n, E.rens f (cs.map (·.2))) :: us)
  | _, _ => none
mutual
def E.okN (p : Nat → Bool) : E → Bool
 | .rf n => p n
 | .rs n _ => p n
 | .pt n _ => p n
 | .cl _ fs cs => E.okNs p fs && E.okNs p cs
 | _ => true
def E.okNs (p : Nat → Bool) : List E → Bool
 | [] => true
 | e :: es => E.okN p e && E.okNs p es
end
def X.okN (p : Nat → Bool) : X → Bool
 | .bot => true
 | .c e => e.okN p
 | .agg es => E.okNs p es
def X.okNs (p : Nat → Bool) : List X → Bool
 | [] => true
 | x :: xs => x.okN p && X.okNs p xs
def D.okN (p : Nat → Bool) : D → Bool
 | .c _ e => e.okN p
 | .agg es => E.okNs p es
 | .tup xs => X.okNs p xs
 | .ptr n _ => p n
 | .ept n _ _ _ => p n
 | _ => true
def ZcQ (P : Program) [Gl P] (L : Tab) (o : Oper) (env : AS) (d : D) (us : Upd) : Prop :=
 match o.op with
 | .box _ x =>
  match o.dst, (env.ev x).es with
  | some t, some es => d = .ptr t 0 ∧ us = [(t, es)]
  | _, _ => False
 | .alloc t =>
  match o.dst, (L.ti t).zero with
  | some u, some z => d = .ptr u 0 ∧ us = [(u, z)]
  | _, _ => False
 | .buildSlice t len parts =>
  match o.dst, (L.ti t).k with
  | some u, .slice e =>
   match (L.ti e).zero with
   | some z => us = [] ∧ 0 < (L.ti e).size ∧ z.length = (L.ti e).size ∧ len * (L.ti e).size ≤ 16777216 ∧
     Zhp env (fun i => some (i * (L.ti e).size, (L.ti e).size)) parts.toList (ZuJ len z) fun es => es.all E.flat = true ∧ ∃ rows', WE (.sl (ZkR (L.ti e).size len es)) (.sl rows') ∧ d = .c none (.sl rows')
   | none => False
  | _, _ => False
 | .store t p x =>
  match env.ev p, (env.ev x).es with
  | .ptr n off, some new =>
   match env.box n with
   | some cs => ZqK cs = true ∧ o.dst = none ∧ (L.ti t).known = true ∧ new.length = (L.ti t).size ∧ off + new.length ≤ cs.length ∧ d = .bot ∧ us = [(n, ZnQ (cs.map (·.2)) off new)]
   | none => False
  | _, _ => False
 | .makeMap t r =>
  match o.dst, (L.ti t).k with
  | some u, .map kt _ => (L.ti kt).known = true ∧ (match r with | none => True | some x => (env.ev x).int?.isSome = true) ∧ d = .c none (.rf u) ∧ us = [(u, [.ob (2 * t + 1) []])]
  | _, _ => False
 | .mapUpdate t m k x => d = .bot ∧ Zgd L env o.dst t (env.ev m) (env.ev k) (env.ev x) fun S' => match env.ev m with
  | .c _ (.rf n) => (match S'.box n with | some cs => us = [(n, cs.map (·.2))] | none => False)
  | _ => False
 | .insert t m k x => d = .bot ∧ Zgd L env o.dst t (env.ev m) (env.ev k) (env.ev x) fun S' => match env.ev m with
  | .c _ (.rf n) => (match S'.box n with | some cs => us = [(n, cs.map (·.2))] | none => False)
  | _ => False
 | .call c =>
  match c.callee with
  | .builtin .append => False
  | .builtin .clear => False
  | .value f =>
   match (env.ev f).fn? with
   | some (g, first, cap) => ∃ nm : List (Nat × Nat),
    ZpG ((first ++ c.args.toList.map env.ev ++ cap).map D.plain) fun ds =>
     match ZhZ env (Zez nm) nm with
     | some bx => (ZrS nm [] && (Znj nm).isEmpty && (Zoy ds).isEmpty) = true ∧ ZpG (ds.map (D.ren (Zez nm))) fun ds' => Zqv (ZqG bx) fun bx => Zq P g ds' bx fun r bx' => r.okN (fun _ => false) = true ∧ d = r.plain ∧ Ztx bx' (Zez (Zfm nm)) nm = some us
     | none => False
   | none => False
  | _ => us = [] ∧ opV L env o.op fun r => d = r
 | op => us = [] ∧ opV L env op fun r => d = r
def ZBA (ts : List Nat) : D → D
 | .c (some (t, k)) e => if ts.contains t then .c none e else .c (some (t, k)) e
 | d => d
def Zzq (ts : List Nat) : Cell → Cell
 | (some (t, k), e) => if ts.contains t then (none, e) else (some (t, k), e)
 | c => c
def AS.cut (S : AS) (ts : List Nat) : AS :=
 ⟨Zqs (ZBA ts) (S.tmps.filter fun p => !ts.contains p.1), Zqs (·.map (Zzq ts)) (S.boxes.filter fun p => !ts.contains p.1)⟩
def AS.drop (S : AS) (ts : List Nat) : AS := ⟨Zqs (D.ren (Zj1 ts)) (S.cut ts).tmps, Zqs (Cell.rens (Zj1 ts)) (S.cut ts).boxes⟩
def AS.mask (S : AS) (ts bs : List Nat) : AS := ⟨S.tmps.filter fun p => !ts.contains p.1, S.boxes.filter fun p => !bs.contains p.1⟩
def bare (es : List E) : List Cell := es.map fun e => (none, e)
def AS.setBoxes (S : AS) : Upd → AS
 | [] => S
 | (n, es) :: us => (S.setBoxes us).setBox n (bare es)
def AS.add (S : AS) (dst : Option Nat) (d : D) (us : Upd) : AS := (S.setBoxes us).putO dst d
def nOk (hide : List Nat) (self : Option Nat) (n : Nat) : Bool := Nat.blt n CAP && (!hide.contains n || self == some n)
def Zmd (hide tch : List Nat) (us : Upd) : Bool := us.all fun p => tch.contains p.1 && E.okNs (nOk hide none) p.2
def Zhe (ops : List Oper) : List Nat := ops.filterMap (·.dst)
def Zea (ops : Array Oper) (m i : Nat) : List Nat :=
 (List.range m).filterMap fun j => if (Zct ops i).contains j then none else (ops[j]?).bind (·.dst)
def ZpP (all : List Nat) : D → Bool
 | .c (some (t, _)) _ => !all.contains t
 | _ => true
def ZpK (hide all : List Nat) (self : Option Nat) (d : D) : Bool := ZpP all d && d.okN (nOk hide self)
def Zow (P : Program) [Gl P] (L : Tab) (nt : Nat) (ops : Array Oper) (m : Nat) (tch : List (List Nat)) : List Oper → Nat → AS → (AS → Prop) → Prop
 | [], _, acc, K => K acc
 | o :: rest, i, acc, K =>
  Zgn nt o.dst = true ∧
  match o.guard with
  | none => ∃ d us, ZcQ P L o (acc.mask (Zea ops m i) (Zng ops m tch i)) d us ∧ (ZpK (Zea ops m i) (Zhe (ops.toList.take m)) o.dst d && Zmd (Zea ops m i) (tch.getD i []) us) = true ∧ ZeL (acc.add o.dst d us) fun acc => Zow P L nt ops m tch rest (i + 1) acc K
  | some (j, want) =>
   match (ops[j]?).bind (·.dst) with
   | some g =>
    match acc.get g with
    | .c tk (.v (.bool b)) =>
     ZiP b want (∃ d us, ZcQ P L o ((acc.put g (.c tk (.v (.bool want)))).mask (Zea ops m i) (Zng ops m tch i)) d us ∧ (ZpK (Zea ops m i) (Zhe (ops.toList.take m)) o.dst d && Zmd (Zea ops m i) (tch.getD i []) us) = true ∧ ZeL ((acc.put g (.c tk (.v (.bool want)))).add o.dst d us) fun acc => Zow P L nt ops m tch rest (i + 1) acc K)
      (ZeL ((acc.put g (.c tk (.v (.bool (!want))))).add o.dst (.tup []) []) fun acc => Zow P L nt ops m tch rest (i + 1) acc K)
    | .tup [] => ZeL (acc.add o.dst (.tup []) []) fun acc => Zow P L nt ops m tch rest (i + 1) acc K
    | _ => False
   | none => False
def ZqY (P : Program) [Gl P] (L : Tab) (nt : Nat) (ops : Array Oper) (all : List Nat) : List Oper → List (List Nat × List Nat × List Nat) → AS → (AS → Prop) → Prop
 | [], _, acc, K => K acc
 | _ :: _, [], _, _ => False
 | o :: rest, (h, hb, tc) :: hs, acc, K =>
  Zgn nt o.dst = true ∧
  match o.guard with
  | none => ∃ d us, ZcQ P L o (acc.mask h hb) d us ∧ (ZpK h all o.dst d && Zmd h tc us) = true ∧ ZeL (acc.add o.dst d us) fun acc => ZqY P L nt ops all rest hs acc K
  | some (j, want) =>
   match (ops[j]?).bind (·.dst) with
   | some g =>
    match acc.get g with
    | .c tk (.v (.bool b)) =>
     ZiP b want (∃ d us, ZcQ P L o ((acc.put g (.c tk (.v (.bool want)))).mask h hb) d us ∧ (ZpK h all o.dst d && Zmd h tc us) = true ∧ ZeL ((acc.put g (.c tk (.v (.bool want)))).add o.dst d us) fun acc => ZqY P L nt ops all rest hs acc K)
      (ZeL ((acc.put g (.c tk (.v (.bool (!want))))).add o.dst (.tup []) []) fun acc => ZqY P L nt ops all rest hs acc K)
    | .tup [] => ZeL (acc.add o.dst (.tup []) []) fun acc => ZqY P L nt ops all rest hs acc K
    | _ => False
   | none => False
def ZuS (ops : Array Oper) (m : Nat) (tch : List (List Nat)) : List (List Nat × List Nat × List Nat) := (List.range m).map fun i => (Zea ops m i, Zng ops m tch i, tch.getD i [])
theorem Zwq {b want : Bool} {A A' B B' : Prop} (h1 : A → A') (h2 : B → B') (h : ZiP b want A B) : ZiP b want A' B' := by
 cases b <;> cases want
 ·exact h1 h
 ·exact h2 h
 ·exact h2 h
 ·exact h1 h
theorem ZnS {P : Program} [Gl P] {L : Tab} {nt : Nat} {ops : Array Oper} {m : Nat} {tch : List (List Nat)} : ∀ (rest : List Oper) (hs : List (List Nat × List Nat × List Nat)) (i : Nat) (acc : AS) (K : AS → Prop), (∀ (k : Nat) h, hs[k]? = some h → h = (Zea ops m (i + k), Zng ops m tch (i + k), tch.getD (i + k) [])) →
  ZqY P L nt ops (Zhe (ops.toList.take m)) rest hs acc K → Zow P L nt ops m tch rest i acc K
 | [], hs, i, acc, K, _, h => h
 | o :: rest, [], i, acc, K, _, h => h.elim
 | o :: rest, (x, xb, xt) :: hs, i, acc, K, hh, h => by
  have hx := hh 0 (x, xb, xt) rfl
  simp only [Nat.add_zero, Prod.mk.injEq] at hx
  obtain ⟨rfl, rfl, rfl⟩ := hx
  have ih := fun acc => ZnS (P := P) (L := L) (nt := nt) rest hs (i + 1) acc K fun k h hk => by
   rw [hh (k + 1) h (by simpa using hk), show i + (k + 1) = i + 1 + k by omega]
  revert h
  simp only [ZqY, Zow, Zgs]
  rintro ⟨h1, h2⟩
  refine ⟨h1, ?_⟩
  revert h2
  split
  ·exact fun ⟨d, bx, h3, h4, h5⟩ => ⟨d, bx, h3, h4, ih _ h5⟩
  ·split
   ·split
    ·exact Zwq (fun ⟨d, bx, h3, h4, h5⟩ => ⟨d, bx, h3, h4, ih _ h5⟩) (fun h2 => ih _ h2)
    ·exact fun h2 => ih _ h2
    ·exact id
   ·exact id
def Zzn (P : Program) [Gl P] (L : Tab) (nt : Nat) (ops : Array Oper) (S : AS) (K : AS → Prop) : Prop :=
 ∃ m tch hs all, (ZsZ ops m tch && hs == ZuS ops m tch && all == Zhe (ops.toList.take m)) = true ∧ ZeL (S.drop all) fun S => ZqY P L nt ops all (ops.toList.take m) hs S fun S' => ZmT P L nt ops (ops.toList.drop m) S' K
def ZCU (P : Program) [Gl P] (L : Tab) (nt : Nat) (ops : Array Oper) (S : AS) (K : AS → Prop) : Prop :=
 ∃ m tch, ZsZ ops m tch = true ∧ Zow P L nt ops m tch (ops.toList.take m) 0 (S.drop (Zhe (ops.toList.take m))) fun S' => ZmT P L nt ops (ops.toList.drop m) S' K
theorem Zyn {P : Program} [Gl P] {L : Tab} {nt : Nat} {ops : Array Oper} {S : AS} {K : AS → Prop} (h : Zzn P L nt ops S K) : ZCU P L nt ops S K := by
 obtain ⟨m, tch, hs, all, h1, h2⟩ := h
 simp only [Bool.and_eq_true, beq_iff_eq] at h1
 obtain ⟨⟨h1, rfl⟩, rfl⟩ := h1
 rw [Zgs] at h2
 refine ⟨m, tch, h1, ZnS _ _ 0 _ _ (fun k h hk => ?_) h2⟩
 unfold ZuS at hk
 rw [List.getElem?_map] at hk
 cases hr : (List.range m)[k]? with
 | none => rw [hr] at hk; cases hk
 | some j =>
  rw [hr] at hk
  have : j = k := by
   have := List.getElem?_eq_some_iff.1 hr
   obtain ⟨h3, h4⟩ := this
   simpa using h4.symm
  subst this
  simpa using hk.symm

mutual
theorem E.ren_ok {f : Nat → Option Nat} {p : Nat → Bool} (h : ∀ n, p n = true → f n = some n) : ∀ e : E, e.okN p = true → e.ren f = e
 | .rf n, k => by simp only [E.ren, h n k]
 | .rs n l, k => by simp only [E.ren, h n k]
 | .pt n o, k => by simp only [E.ren, h n k]
 | .cl g fs cs, k => by
  simp only [E.okN, Bool.and_eq_true] at k
  simp only [E.ren, E.rens_ok h fs k.1, E.rens_ok h cs k.2]
 | .v x, _ => rfl
 | .sl rows, _ => rfl
 | .nils, _ => rfl
 | .ifc b, _ => rfl
 | .any, _ => rfl
 | .ob c rows, _ => rfl
theorem E.rens_ok {f : Nat → Option Nat} {p : Nat → Bool} (h : ∀ n, p n = true → f n = some n) : ∀ es : List E, E.okNs p es = true → E.rens f es = es
 | [], _ => rfl
 | e :: es, k => by
  simp only [E.okNs, Bool.and_eq_true] at k
  simp only [E.rens, E.ren_ok h e k.1, E.rens_ok h es k.2]
end
mutual
theorem E.okN_mono {p q : Nat → Bool} (h : ∀ n, p n = true → q n = true) : ∀ e : E, e.okN p = true → e.okN q = true
 | .rf n, k => h n k
 | .rs n l, k => h n k
 | .pt n o, k => h n k
 | .cl g fs cs, k => by
  simp only [E.okN, Bool.and_eq_true] at k ⊢
  exact ⟨E.okNs_mono h fs k.1, E.okNs_mono h cs k.2⟩
 | .v x, _ => rfl
 | .sl rows, _ => rfl
 | .nils, _ => rfl
 | .ifc b, _ => rfl
 | .any, _ => rfl
 | .ob c rows, _ => rfl
theorem E.okNs_mono {p q : Nat → Bool} (h : ∀ n, p n = true → q n = true) : ∀ es : List E, E.okNs p es = true → E.okNs q es = true
 | [], _ => rfl
 | e :: es, k => by
  simp only [E.okNs, Bool.and_eq_true] at k ⊢
  exact ⟨E.okN_mono h e k.1, E.okNs_mono h es k.2⟩
end
mutual
theorem E.okN_ren {f : Nat → Option Nat} {q : Nat → Bool} (h : ∀ n m, f n = some m → q m = true) : ∀ e : E, (e.ren f).okN q = true
 | .rf n => by simp only [E.ren]; cases hf : f n with | none => rfl | some m => exact h n m hf
 | .rs n l => by simp only [E.ren]; cases hf : f n with | none => rfl | some m => exact h n m hf
 | .pt n o => by simp only [E.ren]; cases hf : f n with | none => rfl | some m => exact h n m hf
 | .cl g fs cs => by simp only [E.ren, E.okN, Bool.and_eq_true]; exact ⟨E.okNs_rens h fs, E.okNs_rens h cs⟩
 | .v x => rfl
 | .sl rows => rfl
 | .nils => rfl
 | .ifc b => rfl
 | .any => rfl
 | .ob c rows => rfl
theorem E.okNs_rens {f : Nat → Option Nat} {q : Nat → Bool} (h : ∀ n m, f n = some m → q m = true) : ∀ es : List E, E.okNs q (E.rens f es) = true
 | [] => rfl
 | e :: es => by simp only [E.rens, E.okNs, Bool.and_eq_true]; exact ⟨E.okN_ren h e, E.okNs_rens h es⟩
end
theorem X.rens_ok {f : Nat → Option Nat} {p : Nat → Bool} (h : ∀ n, p n = true → f n = some n) : ∀ xs : List X, X.okNs p xs = true → X.rens f xs = xs
 | [], _ => rfl
 | x :: xs, k => by
  simp only [X.okNs, Bool.and_eq_true] at k
  have : x.ren f = x := by
   cases x with
   | bot => rfl
   | c e => exact congrArg X.c (E.ren_ok h e k.1)
   | agg es => exact congrArg X.agg (E.rens_ok h es k.1)
  simp only [X.rens, this, X.rens_ok h xs k.2]
theorem X.okNs_mono {p q : Nat → Bool} (h : ∀ n, p n = true → q n = true) : ∀ xs : List X, X.okNs p xs = true → X.okNs q xs = true
 | [], _ => rfl
 | x :: xs, k => by
  simp only [X.okNs, Bool.and_eq_true] at k ⊢
  refine ⟨?_, X.okNs_mono h xs k.2⟩
  cases x with
  | bot => rfl
  | c e => exact E.okN_mono h e k.1
  | agg es => exact E.okNs_mono h es k.1
theorem X.okNs_rens {f : Nat → Option Nat} {q : Nat → Bool} (h : ∀ n m, f n = some m → q m = true) : ∀ xs : List X, X.okNs q (X.rens f xs) = true
 | [] => rfl
 | x :: xs => by
  simp only [X.rens, X.okNs, Bool.and_eq_true]
  refine ⟨?_, X.okNs_rens h xs⟩
  cases x with
  | bot => rfl
  | c e => exact E.okN_ren h e
  | agg es => exact E.okNs_rens h es
theorem D.ren_ok {f : Nat → Option Nat} {p : Nat → Bool} (h : ∀ n, p n = true → f n = some n) {d : D} (k : d.okN p = true) : d.ren f = d := by
 cases d with
 | c tk e => cases tk with
  | none => exact congrArg (D.c none) (E.ren_ok h e k)
  | some q => exact congrArg (D.c (some q)) (E.ren_ok h e k)
 | agg es => exact congrArg D.agg (E.rens_ok h es k)
 | tup xs => exact congrArg D.tup (X.rens_ok h xs k)
 | ptr n off => have := h n k; simp only [D.ren, this]
 | ept n sz i off => have := h n k; simp only [D.ren, this]
 | _ => rfl
theorem D.okN_mono {p q : Nat → Bool} (h : ∀ n, p n = true → q n = true) {d : D} (k : d.okN p = true) : d.okN q = true := by
 cases d with
 | c tk e => exact E.okN_mono h e k
 | agg es => exact E.okNs_mono h es k
 | tup xs => exact X.okNs_mono h xs k
 | ptr n off => exact h n k
 | ept n sz i off => exact h n k
 | _ => rfl
theorem D.okN_ren {f : Nat → Option Nat} {q : Nat → Bool} (h : ∀ n m, f n = some m → q m = true) (d : D) : (d.ren f).okN q = true := by
 cases d with
 | c tk e => cases tk <;> exact E.okN_ren h e
 | agg es => exact E.okNs_rens h es
 | tup xs => exact X.okNs_rens h xs
 | ptr n off => simp only [D.ren]; cases hf : f n with | none => rfl | some m => exact h n m hf
 | ept n sz i off => simp only [D.ren]; cases hf : f n with | none => rfl | some m => exact h n m hf
 | _ => rfl
def ZrP (p : Nat → Bool) (cs : List Cell) : Prop := ∀ c ∈ cs, E.okN p c.2 = true
theorem ZsJ {f : Nat → Option Nat} {p : Nat → Bool} (h : ∀ n, p n = true → f n = some n) {cs : List Cell} (k : ZrP p cs) : Cell.rens f cs = cs := by
 rw [Cell.rens_map]
 refine (List.map_congr_left fun c hc => ?_).trans (List.map_id cs)
 obtain ⟨tk, e⟩ := c
 have := E.ren_ok h e (k _ hc)
 cases tk with
 | none => show (none, _) = _; rw [this]; rfl
 | some q => show (some _, _) = _; rw [this]; rfl
theorem Zyr {f : Nat → Option Nat} {q : Nat → Bool} (h : ∀ n m, f n = some m → q m = true) (cs : List Cell) : ZrP q (Cell.rens f cs) := by
 intro c hc
 rw [Cell.rens_map, List.mem_map] at hc
 obtain ⟨⟨tk, e⟩, _, rfl⟩ := hc
 cases tk <;> exact E.okN_ren h e
theorem Zxx {p : Nat → Bool} {es : List E} (h : E.okNs p es = true) : ZrP p (bare es) := by
 intro c hc
 simp only [bare, List.mem_map] at hc
 obtain ⟨e, he, rfl⟩ := hc
 induction es with
 | nil => simp at he
 | cons x es ih =>
  simp only [E.okNs, Bool.and_eq_true] at h
  rcases List.mem_cons.1 he with rfl | he
  ·exact h.1
  ·exact ih h.2 he
structure AS.NOk (p : Nat → Bool) (T : AS) : Prop where
 get : ∀ i, (T.get i).okN p = true
 box : ∀ n cs, T.box n = some cs → ZrP p cs
section
variable {P : Program} [Gl P] {L : Tab} {S T : AS}
theorem ZjH (place : Nat → Option (Nat × Nat)) : ∀ (parts : List (Nat × Operand)) (cells : List E) (K : List E → Prop), (∀ p ∈ parts, S.ev p.2 = T.ev p.2) → Zhp S place parts cells K → Zhp T place parts cells K
 | [], _, _, _, h => h
 | (i, x) :: rest, cells, K, hev, h => by
  simp only [Zhp] at h ⊢
  rw [← hev (i, x) (by simp)]
  cases hp : place i with
  | none => simp [hp] at h
  | some p =>
   obtain ⟨off, size⟩ := p
   cases he : (S.ev x).es with
   | none => simp [hp, he] at h
   | some es =>
    simp only [hp, he] at h ⊢
    exact ⟨h.1, h.2.1, ZjH place rest _ K (fun p hp => hev p (by simp [hp])) h.2.2⟩
theorem Zqr : ∀ (xs : List Operand), (∀ x ∈ xs, S.ev x = T.ev x) → ZcM? S xs = ZcM? T xs
 | [], _ => rfl
 | x :: xs, h => by simp only [ZcM?, h x (by simp), Zqr xs (fun y hy => h y (by simp [hy]))]
theorem Zqo : ∀ (xs : List Operand), (∀ x ∈ xs, S.ev x = T.ev x) → ZpA? S xs = ZpA? T xs
 | [], _ => rfl
 | x :: xs, h => by simp only [ZpA?, h x (by simp), Zqo xs (fun y hy => h y (by simp [hy]))]
theorem Zxd (hb : ∀ n cs, S.box n = some cs → T.box n = some cs) {t : Nat} {d : D} {K : D → Prop} (h : ZqZ L S t d K) : ZqZ L T t d K := by
 obtain ⟨h1, h2⟩ := h
 refine ⟨h1, ?_⟩
 cases d with
 | ptr n off =>
  simp only at h2 ⊢
  cases hn : S.box n with
  | none => simp [hn] at h2
  | some cs => rw [hn] at h2; rw [hb n cs hn]; exact h2
 | ept n sz i off =>
  simp only at h2 ⊢
  cases hn : S.box n with
  | none => simp [hn] at h2
  | some cs => rw [hn] at h2; rw [hb n cs hn]; exact h2
 | _ => exact h2
theorem Zyv (hb : ∀ n cs, S.box n = some cs → T.box n = some cs) {t : Nat} {d : D} {K : D → Prop} (h : Zvi L S t d K) : Zvi L T t d K := by
 unfold Zvi at h ⊢
 split at h
 ·exact h
 ·rename_i n hk
  cases hn : S.box n with
  | none => simp [hn] at h
  | some cs => rw [hn] at h; rw [hb n cs hn]; exact h
 ·exact h
 ·exact h
 ·exact h
 ·exact h.elim
theorem ZuR (hb : ∀ n cs, S.box n = some cs → T.box n = some cs) {t : Nat} {d k : D} {ok : Bool} {K : D → Prop} (h : ZjY L S t d k ok K) : ZjY L T t d k ok K := by
 unfold ZjY at h ⊢
 split at h
 case h_2 => exact h.elim
 rename_i n ke h1 h2
 cases hn : S.box n with
 | none => simp [hn] at h
 | some cs => rw [hn] at h; rw [hb n cs hn]; exact h
theorem Zmv (hb : ∀ n cs, S.box n = some cs → T.box n = some cs) {dst : Option Nat} {t : Nat} {m k x : D} {K K' : AS → Prop} (hK : ∀ n cs, m = .c none (.rf n) ∨ (∃ q, m = .c (some q) (.rf n)) → K (S.setBox n cs) → K' (T.setBox n cs)) (h : Zgd L S dst t m k x K) : Zgd L T dst t m k x K' := by
 unfold Zgd at h ⊢
 split at h
 case h_2 => exact h.elim
 rename_i tk n ke val h1 h2 h3
 split at h
 case h_2 => exact h.elim
 rename_i code rows hn
 rw [hb _ _ hn]
 obtain ⟨g1, g2, g3, g4, g5, g6, g7, g8, val', rows', gw, g9, g10⟩ := h
 exact ⟨g1, g2, g3, g4, g5, g6, g7, g8, val', rows', gw, g9, hK _ _ (by cases tk with | none => exact .inl rfl | some q => exact .inr ⟨q, rfl⟩) g10⟩
theorem ZtH (hb : ∀ n cs, S.box n = some cs → T.box n = some cs) {op : Op} {K : D → Prop} (hev : ∀ x ∈ op.operands, S.ev x = T.ev x) (h : opV L S op K) : opV L T op K := by
 cases op with
 | move x => simp only [opV] at h ⊢; rw [← hev x (by simp [Op.operands])]; exact h
 | assign x => simp only [opV] at h ⊢; rw [← hev x (by simp [Op.operands])]; exact h
 | pick c x y =>
  simp only [opV] at h ⊢
  rw [← hev c (by simp [Op.operands]), ← hev x (by simp [Op.operands]), ← hev y (by simp [Op.operands])]; exact h
 | load t p => simp only [opV] at h ⊢; rw [← hev p (by simp [Op.operands])]; exact Zxd hb h
 | fieldAddr t p f => simp only [opV] at h ⊢; rw [← hev p (by simp [Op.operands])]; exact h
 | field t p f => simp only [opV] at h ⊢; rw [← hev p (by simp [Op.operands])]; exact h
 | indexAddr t x i => simp only [opV] at h ⊢; rw [← hev x (by simp [Op.operands]), ← hev i (by simp [Op.operands])]; exact h
 | index t x i => simp only [opV] at h ⊢; rw [← hev x (by simp [Op.operands]), ← hev i (by simp [Op.operands])]; exact h
 | slice t x lo hi mx =>
  simp only [opV] at h ⊢
  have hlo : lo.map S.ev = lo.map T.ev := by cases lo <;> simp; exact hev _ (by simp [Op.operands])
  have hhi : hi.map S.ev = hi.map T.ev := by cases hi <;> simp; exact hev _ (by simp [Op.operands])
  have hmx : mx.map S.ev = mx.map T.ev := by cases mx <;> simp; exact hev _ (by simp [Op.operands])
  rw [← hev x (by simp [Op.operands]), ← hlo, ← hhi, ← hmx]; exact h
 | binOp op t x y u => simp only [opV] at h ⊢; unfold Zr8 at h ⊢; rw [← hev x (by simp [Op.operands]), ← hev y (by simp [Op.operands])]; exact h
 | unOp op t x => simp only [opV] at h ⊢; rw [← hev x (by simp [Op.operands])]; exact h
 | convert s t x => simp only [opV] at h ⊢; rw [← hev x (by simp [Op.operands])]; exact h
 | nilCheck x => simp only [opV] at h ⊢; rw [← hev x (by simp [Op.operands])]; exact h
 | extract x i => simp only [opV] at h ⊢; rw [← hev x (by simp [Op.operands])]; exact h
 | build t parts =>
  simp only [opV] at h ⊢
  have hp : ∀ p ∈ parts.toList, S.ev p.2 = T.ev p.2 := fun p hp => hev p.2 (by simp only [Op.operands, List.mem_toArray, List.mem_map]; exact ⟨p, hp, rfl⟩)
  split at h
  ·exact ⟨h.1, ZjH _ _ _ _ hp h.2⟩
  ·exact ⟨h.1, ZjH _ _ _ _ hp h.2⟩
  ·exact h.elim
 | lookup t m k ok => simp only [opV] at h ⊢; rw [← hev m (by simp [Op.operands]), ← hev k (by simp [Op.operands])]; exact ZuR hb h
 | makeFunc fn first captured =>
  simp only [opV] at h ⊢
  rw [← Zqo first.toList (fun x hx => hev x (by simp [Op.operands] at hx ⊢; exact .inl hx)), ← Zqo captured.toList (fun x hx => hev x (by simp [Op.operands] at hx ⊢; exact .inr hx))]
  rw [← Zqr first.toList (fun x hx => hev x (by simp [Op.operands] at hx ⊢; exact .inl hx)), ← Zqr captured.toList (fun x hx => hev x (by simp [Op.operands] at hx ⊢; exact .inr hx))]
  exact h
 | call c =>
  simp only [opV] at h ⊢
  have hargs : ∀ x ∈ c.args.toList, S.ev x = T.ev x := fun x hx => hev x (by
   simp only [Op.operands, Call.operands]
   exact Array.mem_append.2 (.inr (by simpa using hx)))
  split at h
  ·rename_i x t h1 h2 h3
   rw [← hargs x (by rw [h2]; simp)]; exact Zyv hb h
  ·rename_i x y h1 h2
   rw [← hargs x (by rw [h2]; simp), ← hargs y (by rw [h2]; simp)]; exact h
  ·rename_i x y h1 h2
   rw [← hargs x (by rw [h2]; simp), ← hargs y (by rw [h2]; simp)]; exact h
  ·exact h.elim
 | _ => exact h.elim
theorem ZsF (hb : ∀ n cs, S.box n = some cs → T.box n = some cs) (f : Nat → Option Nat) : ∀ (ns : List (Nat × Nat)) (bx : ZbV), ZhZ S f ns = some bx → ZhZ T f ns = some bx
 | [], bx, h => h
 | (n, c) :: ns, bx, h => by
  simp only [ZhZ] at h ⊢
  split at h
  ·rename_i cs bx' h1 h2
   rw [hb n cs h1, ZsF hb f ns bx' h2]; exact h
  ·cases h
theorem ZlC (hb : ∀ n cs, S.box n = some cs → T.box n = some cs) {o : Oper} {d : D} {bx : Upd} (hev : ∀ x ∈ o.op.operands, S.ev x = T.ev x) (h : ZcQ P L o S d bx) : ZcQ P L o T d bx := by
 obtain ⟨dst, op, ty, pos, after, guard⟩ := o
 simp only at hev
 cases op with
 | box t x => simp only [ZcQ] at h ⊢; rw [← hev x (by simp [Op.operands])]; exact h
 | alloc t => exact h
 | buildSlice t len parts =>
  have hp : ∀ p ∈ parts.toList, S.ev p.2 = T.ev p.2 := fun p hp => hev p.2 (by simp only [Op.operands, List.mem_toArray, List.mem_map]; exact ⟨p, hp, rfl⟩)
  simp only [ZcQ] at h ⊢
  split at h
  ·split at h
   ·exact ⟨h.1, h.2.1, h.2.2.1, h.2.2.2.1, ZjH _ _ _ _ hp h.2.2.2.2⟩
   ·exact h.elim
  ·exact h.elim
 | store t p x =>
  simp only [ZcQ] at h ⊢
  rw [← hev p (by simp [Op.operands]), ← hev x (by simp [Op.operands])]
  split at h
  case h_2 => exact h.elim
  split at h
  case h_2 => exact h.elim
  rename_i cs hcs
  rw [hb _ _ hcs]
  exact h
 | makeMap t r =>
  simp only [ZcQ] at h ⊢
  split at h
  case h_2 => exact h.elim
  refine ⟨h.1, ?_, h.2.2⟩
  cases r with
  | none => trivial
  | some x => have := hev x (by simp [Op.operands]); simp only at h ⊢; rw [← this]; exact h.2.1
 | mapUpdate t m k x =>
  simp only [ZcQ] at h ⊢
  rw [← hev m (by simp [Op.operands]), ← hev k (by simp [Op.operands]), ← hev x (by simp [Op.operands])]
  refine ⟨h.1, Zmv hb (fun n cs hm h => ?_) h.2⟩
  rcases hm with hm | ⟨q, hm⟩ <;> rw [hm] at h ⊢ <;> simp only [ZbN, if_true] at h ⊢ <;> exact h
 | insert t m k x =>
  simp only [ZcQ] at h ⊢
  rw [← hev m (by simp [Op.operands]), ← hev k (by simp [Op.operands]), ← hev x (by simp [Op.operands])]
  refine ⟨h.1, Zmv hb (fun n cs hm h => ?_) h.2⟩
  rcases hm with hm | ⟨q, hm⟩ <;> rw [hm] at h ⊢ <;> simp only [ZbN, if_true] at h ⊢ <;> exact h
 | call c =>
  have hargs : ∀ x ∈ c.args.toList, S.ev x = T.ev x := fun x hx => hev x (by
   simp only [Op.operands, Call.operands]
   exact Array.mem_append.2 (.inr (by simpa using hx)))
  simp only [ZcQ] at h ⊢
  split at h
  ·exact h.elim
  ·exact h.elim
  ·rename_i f hf
   rw [← hev f (by simp only [Op.operands, Call.operands, hf]; exact Array.mem_append.2 (.inl (by simp)))]
   rw [← List.map_congr_left hargs]
   split at h
   case h_2 => exact h
   rename_i g first cap hev2
   obtain ⟨nm, h⟩ := h
   refine ⟨nm, ?_⟩
   rw [ZfW] at h ⊢
   split at h
   case h_2 => exact h.elim
   rename_i bx' hp
   rw [ZsF hb _ _ _ hp]
   exact h
  ·exact ⟨h.1, ZtH hb hev h.2⟩
 | _ => simp only [ZcQ] at h ⊢; exact ⟨h.1, ZtH hb hev h.2⟩
end
section
variable {P : Program} [Gl P] {L : Tab} (hL : TOk P L) {nt : Nat} (hnt : nt ≤ EXT) {w0 : World} {M0 : Nat → Prop} {S0 : ZaA} {ρ0 : Nat → Nat} {df : List Deferred} {T : AS} {a : Act} {w : World}
def Zoi : Op → Bool
 | .box _ _ => true
 | .alloc _ => true
 | .makeMap _ _ => true
 | _ => false
def AS.killO (S : AS) (b : Bool) (dst : Option Nat) : AS :=
 match b, dst with
 | true, some t => S.kill t
 | _, _ => S
def AS.addX (S : AS) (nw : Bool) (dst : Option Nat) (d : D) (us : Upd) : AS := ((S.killO nw dst).setBoxes us).putO dst d
theorem ZjX (S : AS) : ∀ (us : Upd) (i : Nat), (S.setBoxes us).get i = S.get i
 | [], i => rfl
 | (n, es) :: us, i => by rw [AS.setBoxes, ZmD, ZjX S us]
theorem Zj0 (S : AS) : ∀ (us : Upd) (n : Nat), (S.setBoxes us).box n = match Z2 us n with | some es => some (bare es) | none => S.box n
 | [], n => rfl
 | (m, es) :: us, n => by
  rw [AS.setBoxes, ZbN, Z2]
  by_cases h : n = m
  ·rw [if_pos h, if_pos h]
  ·rw [if_neg h, if_neg h, Zj0 S us]
theorem Zr1 (S : AS) (dst : Option Nat) (d : D) (i : Nat) : (S.putO dst d).get i = if dst = some i then d else S.get i := by
 cases dst with
 | none => simp [AS.putO]
 | some t => simp only [AS.putO, Ze1, Option.some.injEq]; by_cases h : i = t; rw [if_pos h, if_pos h.symm]; rw [if_neg h, if_neg (fun e => h e.symm)]
theorem Zl5 (S : AS) (dst : Option Nat) (d : D) (n : Nat) : (S.putO dst d).box n = S.box n := by cases dst <;> rfl
def AS.bareB (S : AS) (ns : List Nat) : AS := ⟨S.tmps, S.boxes.map fun p => (p.1, if ns.contains p.1 then Zi4 p.2 else p.2)⟩
theorem Zqj (S : AS) (ns : List Nat) (n : Nat) : (S.bareB ns).box n = (S.box n).map fun cs => if ns.contains n then Zi4 cs else cs := by
 obtain ⟨tm, bs⟩ := S
 simp only [AS.box, AS.bareB]
 induction bs with
 | nil => rfl
 | cons p l ih =>
  obtain ⟨m, cs⟩ := p
  simp only [List.map_cons, Z2]
  by_cases h : n = m
  ·subst h; simp
  ·rw [if_neg h, if_neg h, ih]
theorem ZwF (S : AS) (ns : List Nat) : Zix S (S.bareB ns) := by
 refine ⟨fun i => .inr (.inl rfl), fun n cs h => ?_⟩
 rw [Zqj, Option.map_eq_some_iff] at h
 obtain ⟨ds, hd, rfl⟩ := h
 by_cases hc : ns.contains n = true
 ·rw [if_pos hc]
  refine ⟨ds, hd, by simp [Zi4], fun k c hk => ?_⟩
  rw [Zi4, List.getElem?_map, Option.map_eq_some_iff] at hk
  obtain ⟨x, hx, rfl⟩ := hk
  exact ⟨x, hx, rfl, .inr rfl⟩
 ·rw [if_neg hc]
  exact ⟨ds, hd, rfl, fun k c hk => ⟨c, hk, rfl, .inl rfl⟩⟩
theorem Zq4 : ∀ l : List Cell, Zpe (Zi4 l) = []
 | [] => rfl
 | c :: l => by have := Zq4 l; simp only [Zi4, List.map_cons, Zpe] at this ⊢; exact this
theorem Zp4 : ∀ bx : ZbV, Zoe (ZqG bx) = []
 | [] => rfl
 | (n, cs) :: l => by simp only [ZqG, Zoe, Zq4, Zp4 l, List.append_nil]
theorem Zxe (f : Nat → Option Nat) (cs : List Cell) : Cell.rens f (Zi4 cs) = Zi4 (Cell.rens f cs) := by
 rw [Cell.rens_map, Cell.rens_map, Zi4, Zi4, List.map_map, List.map_map]
 refine List.map_congr_left fun c _ => ?_
 obtain ⟨tk, e⟩ := c
 cases tk <;> rfl
theorem Zr9 (S : AS) (f : Nat → Option Nat) (all : List Nat) : ∀ (nm : List (Nat × Nat)) (bx : ZbV), (∀ p ∈ nm, p.1 ∈ all) → ZhZ S f nm = some bx → ZhZ (S.bareB all) f nm = some (ZqG bx)
 | [], bx, _, h => by injection h with h; subst h; rfl
 | (n, c) :: nm, bx, ha, h => by
  simp only [ZhZ] at h
  split at h
  case h_2 => cases h
  rename_i cs bx' h1 h2
  injection h with h; subst h
  have h3 := Zr9 S f all nm bx' (fun p hp => ha p (by simp [hp])) h2
  have h5 : (S.bareB all).box n = some (Zi4 cs) := by
   rw [Zqj, h1]
   simp only [Option.map_some]
   rw [if_pos (by simpa using ha (n, c) (by simp))]
  simp only [ZhZ, h5, h3, ZqG, Zxe]
theorem ZpR : ∀ (ds : List D) (ts : List Nat), (∀ t ∈ Zoy ds, t ∈ ts) → ds.map (Zk7 ts) = ds.map D.plain
 | [], _, _ => rfl
 | d :: ds, ts, h => by
  have ih := ZpR ds ts fun t ht => h t (by unfold Zoy; split <;> simp_all)
  simp only [List.map_cons, ih]
  congr 1
  cases d with
  | c tk e =>
   cases tk with
   | none => rfl
   | some q =>
    obtain ⟨t, k⟩ := q
    have := h t (by simp [Zoy])
    simp [Zk7, D.plain, this]
  | _ => rfl
theorem Zvt (ds : List D) : ds.map (Zk7 (Zoy ds)) = ds.map D.plain := ZpR ds _ fun _ h => h
theorem Zyf {r : D} {t : Nat} {p : Nat → Bool} (h : r.okN p = true) : (r.retok t).okN p = true := by
 cases r with
 | c tk e => cases tk <;> exact h
 | _ => exact h
theorem ZyQ {r : D} {p : Nat → Bool} (h : r.okN p = true) : r.plain.okN p = true := by cases r <;> exact h
include hL hnt in
theorem Zrw {o : Oper} {d : D} {us : Upd} (hT : ∀ u, o.dst = some u → Zix (T.strip u) T) (hC : T.NOk (Nat.blt · CAP)) (hE : Zoi o.op = true → ∀ u, o.dst = some u → ∀ p ∈ us, E.okNs (fun n => Nat.blt n CAP && !Nat.beq n u) p.2 = true)
  (hd : Zgn nt o.dst = true) (hk : ZcQ P L o T d us) (h : Zcv P nt df w0 M0 S0 ρ0 T a w) {next : Act → World → Prop} {Q : Exit → Act → World → Prop}
  (hn : ∀ a' w', Zcv P nt df w0 M0 S0 ρ0 (T.addX (Zoi o.op) o.dst d us) a' w' → next a' w') : o.wp P a w next Q := by
 have hv : Zoi o.op = false → (us = [] ∧ opV L T o.op fun r => d = r) → o.wp P a w next Q := fun hnw ⟨hbx, hv⟩ => by
  subst hbx
  rw [hnw] at hn
  obtain ⟨hdef, hsize, St, ρ, h3, h4⟩ := h
  obtain ⟨r, v, rfl, hr, hrep, htok⟩ := ZqI hL h3 hv
  unfold Oper.wp
  rw [hr, Oper.upon_value]
  refine hn _ _ ⟨by rw [Zhg]; exact hdef, by rw [ZeQ]; exact hsize, St, ρ, ?_, h4⟩
  cases hdst : o.dst with
  | none => exact h3
  | some t =>
   rw [hdst] at hd
   have ht : t < nt := of_decide_eq_true hd
   exact h3.put (by rw [hsize]; exact ht) hrep htok
 have hbut : ∀ u n, (Nat.blt n CAP && !Nat.beq n u) = true → but u n = some n := fun u n hp => by
  simp only [Bool.and_eq_true, Bool.not_eq_true', Nat.blt_eq] at hp
  unfold but
  rw [if_neg, if_pos hp.1]
  rintro rfl
  have := hp.2
  simp at this
 have hst : ∀ (n : Nat) (cs : List Cell) (es : List E), o.dst = none → Zoi o.op = false → d = .bot → us = [(n, es)] → cs.map (·.2) = es → (∃ ds, T.box n = some ds) → ∀ a' w', Zcv P nt df w0 M0 S0 ρ0 (T.setBox n cs) a' w' → next a' w' := fun n cs es hdn hnw hd0 hus hes hbx a' w' h' => by
  subst hus hd0
  rw [hnw] at hn
  refine hn _ _ (h'.less ⟨fun i => .inr (.inl ?_), fun m ds hb => ?_⟩)
  ·rw [hdn]; rfl
  ·rw [hdn] at hb
   simp only [AS.addX, AS.killO, AS.setBoxes, AS.putO] at hb
   rw [ZbN] at hb ⊢
   by_cases hm : m = n
   ·rw [if_pos hm] at hb ⊢
    injection hb with hb
    subst hb
    refine ⟨_, rfl, by rw [bare, List.length_map, ← hes, List.length_map], fun k c hc => ?_⟩
    rw [bare, ← hes, List.map_map, List.getElem?_map, Option.map_eq_some_iff] at hc
    obtain ⟨y, hy, rfl⟩ := hc
    exact ⟨y, hy, rfl, .inr rfl⟩
   ·rw [if_neg hm] at hb ⊢
    exact ⟨ds, hb, rfl, fun k c hc => ⟨c, hc, rfl, .inl rfl⟩⟩
 unfold ZcQ at hk
 split at hk
 ·
  rename_i t x hop
  split at hk
  case h_2 => exact hk.elim
  rename_i u cs hdst hcs
  obtain ⟨rfl, rfl⟩ := hk
  have hE := hE (by rw [hop]; rfl) u hdst (u, cs) (by simp)
  rw [hdst] at hd hn
  rw [hop] at hn
  have hu : u < nt := of_decide_eq_true hd
  have h' := h
  obtain ⟨_, _, St, ρ, h3, _⟩ := h'
  have hrun : (execOp a.eval o).run P w = .ok (.value (.pointer (some ⟨w.heap.size, 0, none⟩))) (w.alloc (.cells (a.eval x).cells t)) := by
   simp only [execOp, hop, Instr.box, newVar, newRow, Sem.run_bind, Sem.run_pure, run_newObj, Result.andThen_ok, World.alloc_eq]
  unfold Oper.wp
  rw [hrun, Oper.upon_value, hdst]
  obtain ⟨nc, hnc, hne⟩ : ∃ nc : List Cell, (T.ev x).cells = some nc ∧ nc.map (·.2) = cs := by
   cases hd : T.ev x with
   | c tk e => rw [hd] at hcs; injection hcs with hcs; exact ⟨_, rfl, hcs⟩
   | agg es => rw [hd] at hcs; injection hcs with hcs; exact ⟨_, rfl, by rw [← hcs, List.map_map]; exact (List.map_congr_left fun _ _ => rfl).trans (List.map_id _)⟩
   | ptr n off => rw [hd] at hcs; injection hcs with hcs; exact ⟨_, rfl, hcs⟩
   | _ => rw [hd] at hcs; cases hcs
  have hbc : bare cs = Zi4 nc := by rw [← hne, bare, Zi4, List.map_map]; rfl
  have hren : Cell.rens (but u) (bare cs) = bare cs := ZsJ (hbut u) (Zxx hE)
  have hb := ZnP (cs := bare cs) h t hu hnt (by rw [hbc, Zi4, List.length_map]; exact (Zji (ZbL h3 x) hnc).1) (fun St ρ h3 k c hc => ?_) (fun j t' k e u' hj hu' => ?_)
  ·rw [hren] at hb
   exact hn _ _ hb
  ·rw [hbc, Zi4, List.getElem?_map, Option.map_eq_some_iff] at hc
   obtain ⟨c0, h5, rfl⟩ := hc
   exact (Zji (ZbL h3 x) hnc).2.1 k c0 h5
  ·simp only [bare, List.getElem?_map, Option.map_eq_some_iff] at hj
   obtain ⟨_, _, hj⟩ := hj
   cases hj
 ·
  rename_i t hop
  split at hk
  case h_2 => exact hk.elim
  rename_i u z hdst hz
  obtain ⟨rfl, rfl⟩ := hk
  rw [hdst] at hd
  have hu : u < nt := of_decide_eq_true hd
  refine ZeA hL hnt (K := fun S' => S' = ((T.kill u).setBox u (z.map fun e => (none, e))).put u (.ptr u 0)) (by simp only [Zgg, hop, hdst, hz]; exact ⟨hu, trivial⟩) h fun S' a' w' hS h' => ?_
  subst hS
  rw [hdst, hop] at hn
  exact hn _ _ h'
 ·
  rename_i t len parts hop
  split at hk
  case h_2 => exact hk.elim
  rename_i u e hdst hty
  split at hk
  case h_2 => exact hk.elim
  rename_i z hz
  obtain ⟨rfl, hs0, hzl, hbig, hK⟩ := hk
  rw [hdst] at hd hn
  rw [hop] at hn
  have hu : u < nt := of_decide_eq_true hd
  refine ZjS hL h hop hdst hty hz hu hs0 hzl hbig hK fun es a' w' ⟨rows', hwe, hes⟩ h' => hn _ _ ?_
  replace h' := h'.lessRows hwe
  have hTu := hT u hdst
  refine h'.less ⟨fun i => ?_, fun n cs hb => hTu.box n cs hb⟩
  show _ ∨ _ ∨ _
  simp only [Zoi, AS.addX, AS.killO, AS.setBoxes, AS.putO, Ze1]
  split
  ·exact .inr (.inr ⟨_, _, rfl, hes⟩)
  ·exact hTu.get i
 ·
  rename_i t p x hop
  have hnw : Zoi o.op = false := by rw [hop]; rfl
  split at hk
  case h_2 => exact hk.elim
  rename_i n off new hp hx
  split at hk
  case h_2 => exact hk.elim
  rename_i cs hcs
  obtain ⟨hpl, hdn, hkn, hlen, hoff, hd0, hus⟩ := hk
  obtain ⟨nc, hnc, hne⟩ : ∃ nc : List Cell, (T.ev x).cells = some nc ∧ nc.map (·.2) = new := by
   cases hd : T.ev x with
   | c tk e => rw [hd] at hx; injection hx with hx; exact ⟨_, rfl, hx⟩
   | agg es => rw [hd] at hx; injection hx with hx; exact ⟨_, rfl, by rw [← hx, List.map_map]; exact (List.map_congr_left fun _ _ => rfl).trans (List.map_id _)⟩
   | ptr n off => rw [hd] at hx; injection hx with hx; exact ⟨_, rfl, hx⟩
   | _ => rw [hd] at hx; cases hx
  have hl2 : nc.length = new.length := by rw [← hne]; simp
  have e1 : (Zju cs off nc).map (·.2) = ZnQ (cs.map (·.2)) off new := by
   simp only [Zju, ZnQ, List.map_append, List.map_take, List.map_drop, hne, hl2]
  refine ZeA hL hnt (K := fun S' => S' = T.setBox n (Zju cs off nc)) (by simp only [Zgg, hop, hp, hnc, hcs]; exact ⟨hpl, hdn, hkn, by omega, by omega, trivial⟩) h fun S' a' w' hS h' => ?_
  subst hS
  exact hst n _ _ hdn hnw hd0 hus e1 ⟨cs, hcs⟩ _ _ h'
 ·
  rename_i t r hop
  split at hk
  case h_2 => exact hk.elim
  rename_i u kt vt hdst hmt
  obtain ⟨hkn, hr, rfl, rfl⟩ := hk
  rw [hdst] at hd
  have hu : u < nt := of_decide_eq_true hd
  refine ZeA hL hnt (K := fun S' => S' = ((T.kill u).setBox u [(none, .ob (2 * t + 1) [])]).put u (.c none (.rf u))) (by simp only [Zgg, hop, hdst, hmt]; exact ⟨hu, hkn, hr, trivial⟩) h fun S' a' w' hS h' => ?_
  subst hS
  rw [hdst, hop] at hn
  exact hn _ _ h'
 ·
  rename_i t m k x hop
  have hnw : Zoi o.op = false := by rw [hop]; rfl
  obtain ⟨hd0, hk⟩ := hk
  unfold Zgd at hk
  split at hk
  case h_2 => exact hk.elim
  rename_i kt vt tk n ke val h1 h2 h3 h4
  split at hk
  case h_2 => exact hk.elim
  rename_i code rows hb
  obtain ⟨g1, g2, g3, g4, g5, g6, g7, g8, val', rows', gw, g9, g10⟩ := hk
  rw [h2] at g10
  simp only [ZbN, if_true] at g10
  refine ZeA hL hnt (K := fun S' => S' = T.setBox n [(none, .ob code rows')]) (by simp only [Zgg, hop]; unfold Zgd; simp only [h1, h2, h3, h4, hb]; exact ⟨g1, g2, g3, g4, g5, g6, g7, g8, val', rows', gw, g9, rfl⟩) h fun S' a' w' hS h' => ?_
  subst hS
  exact hst n _ _ g1 hnw hd0 g10 rfl ⟨_, hb⟩ _ _ h'
 ·rename_i t m k x hop
  have hnw : Zoi o.op = false := by rw [hop]; rfl
  obtain ⟨hd0, hk⟩ := hk
  unfold Zgd at hk
  split at hk
  case h_2 => exact hk.elim
  rename_i kt vt tk n ke val h1 h2 h3 h4
  split at hk
  case h_2 => exact hk.elim
  rename_i code rows hb
  obtain ⟨g1, g2, g3, g4, g5, g6, g7, g8, val', rows', gw, g9, g10⟩ := hk
  rw [h2] at g10
  simp only [ZbN, if_true] at g10
  refine ZeA hL hnt (K := fun S' => S' = T.setBox n [(none, .ob code rows')]) (by simp only [Zgg, hop]; unfold Zgd; simp only [h1, h2, h3, h4, hb]; exact ⟨g1, g2, g3, g4, g5, g6, g7, g8, val', rows', gw, g9, rfl⟩) h fun S' a' w' hS h' => ?_
  subst hS
  exact hst n _ _ g1 hnw hd0 g10 rfl ⟨_, hb⟩ _ _ h'
 ·rename_i c hop
  have hnw : Zoi o.op = false := by rw [hop]; rfl
  split at hk
  ·exact hk.elim
  ·exact hk.elim
  ·rename_i f hf
   split at hk
   case h_2 => exact hk.elim
   rename_i g first cap hev
   obtain ⟨nm, hk⟩ := hk
   rw [ZfW] at hk
   split at hk
   case h_2 => exact hk.elim
   rename_i bx hp
   rw [ZfW, Zjm] at hk
   obtain ⟨hok, hcall⟩ := hk
   simp only [Bool.and_eq_true, List.isEmpty_iff] at hok
   obtain ⟨⟨hnames, hmv⟩, htk⟩ := hok
   obtain ⟨callee, ts0, ts⟩ := c
   simp only at hf
   subst hf
   rw [hnw] at hn
   simp only at hp htk hcall
   generalize hds : (first ++ ts0.toList.map T.ev ++ cap).map D.plain = ds at hp htk hcall
   have hpb := Zr9 T (Zez nm) (ZiE nm) nm bx (fun p hp => by rw [Zh2]; exact List.mem_map.2 ⟨p, hp, rfl⟩) hp
   have h' := h.less (ZwF T (ZiE nm))
   have hevB : ∀ x, (T.bareB (ZiE nm)).ev x = T.ev x := fun x => by cases x <;> rfl
   have hnd : ((Zfm nm).map (·.2)).Nodup := by
    simp only [ZrS, Bool.and_eq_true] at hnames
    have := Zin hnames.1.1.1.1
    rw [Zh2, Zhj] at this
    rw [ZeH, List.map_map]
    exact (List.nodup_append.1 this).1
   refine Zqz h' hop (K := fun S' => ∃ r bx', r.okN (fun _ => false) = true ∧ d = r.plain ∧ Ztx bx' (Zez (Zfm nm)) nm = some us ∧ Zue (T.bareB (ZiE nm)) nm [] [] o.dst r bx' fun S => S' = S) ?_ fun S' a' w' ⟨r, bx', hr0, hr, hb, hS⟩ h' => hn a' w' ?_
   ·unfold Zqa
    simp only [hevB, hev]
    refine ⟨Zoy (first ++ ts0.toList.map (T.bareB (ZiE nm)).ev ++ cap), nm, [], ?_⟩
    have e1 : ts0.toList.map (T.bareB (ZiE nm)).ev = ts0.toList.map T.ev := List.map_congr_left fun x _ => hevB x
    rw [e1, Zvt, hds]
    simp only [ZfW, Zjm, hpb, htk, Zp4, List.append_nil]
    refine ⟨by rw [hd, hnames]; rfl, ?_⟩
    exact Zq.mono hcall fun r b ⟨h0, h1, h2⟩ => ⟨r, b, h0, h1, h2, by unfold Zue; rfl⟩
   ·unfold Zue at hS
    subst hS
    subst hr
    have hf0 : ∀ n, Nat.blt n CAP = true → Zj1 ([] : List Nat) n = some n := fun n hn => by
     unfold Zj1; rw [if_neg (by simp), if_pos (by simpa using hn)]
    have hno : ∀ {f : Nat → Option Nat} {q : D}, q.okN (fun _ => false) = true → q.ren f = q := fun hq => D.ren_ok (fun n hn => by cases hn) hq
    refine h'.less ⟨fun i => ?_, fun n cs hc => ?_⟩
    ·simp only [AS.addX, Zr1, AS.killO, ZjX]
     by_cases hi : o.dst = some i
     ·rw [if_pos hi, if_pos hi]
      split
      ·rw [hi]
       rw [hno (Zyf hr0)]
       cases r with
       | c tk' e => cases tk' with
        | none => exact .inr (.inl rfl)
        | some q => exact .inr (.inr ⟨(i, q.2), e, rfl, rfl⟩)
       | _ => exact .inr (.inl rfl)
      ·rw [hno (ZyQ hr0)]; exact .inr (.inl rfl)
     ·rw [if_neg hi, if_neg hi]
      refine .inr (.inl ?_)
      have e2 : ∀ b : ZbV, AS.get { ((T.bareB (ZiE nm)).stripAll []).killN (Znj nm ++ Zlm []) with boxes := b } i = (((T.bareB (ZiE nm)).stripAll []).killN (Znj nm ++ Zlm [])).get i := fun b => rfl
      rw [e2]
      have hmv' : Znj nm ++ Zlm [] = [] := by rw [hmv]; rfl
      rw [hmv']
      simp only [AS.stripAll, AS.get, AS.killN, Zf9, ZfA]
      have hg := hC.get i
      simp only [AS.get] at hg
      have e3 : (T.bareB (ZiE nm)).tmps = T.tmps := rfl
      rw [e3]
      cases hl : Z2 T.tmps i with
      | none => rfl
      | some x =>
       rw [hl] at hg
       simp only [Option.map_some, Option.getD_some] at hg ⊢
       exact (D.ren_ok hf0 hg).symm
    ·simp only [AS.addX, Zl5, AS.killO, Zj0] at hc
     rw [Zl5]
     have hmv' : Znj nm ++ Zlm [] = [] := by rw [hmv]; rfl
     rw [hmv']
     simp only [AS.box, List.append_nil] at hc ⊢
     generalize hB : ((T.bareB (ZiE nm)).stripAll []).killN [] = F
     have hF : ∀ m ds, T.box m = some ds → Z2 F.boxes m = some (if (ZiE nm).contains m then Zi4 ds else ds) := fun m ds hm => by
      subst hB
      have h8 := Zqj T (ZiE nm) m
      rw [hm] at h8
      simp only [AS.stripAll, AS.killN, Zf9, ZfA, Zjp]
      simp only [AS.box] at h8
      rw [if_neg (by simp), h8]
      simp only [Option.map_some, Option.some.injEq]
      have h9 := hC.box m ds hm
      refine ZsJ hf0 ?_
      split
      ·intro c hc'
       simp only [Zi4, List.mem_map] at hc'
       obtain ⟨c0, h10, rfl⟩ := hc'
       exact h9 c0 h10
      ·exact h9
     have key : ∀ (l : List (Nat × Nat)) (b : ZbV) (us : Upd), (l.map (·.1)).Nodup → Ztx bx' (Zez (Zfm nm)) l = some us → ∀ n, (∀ es, Z2 us n = some es → ∃ cs', Z2 (Zmi bx' (Zez (Zfm nm)) (Zfm l) b) n = some cs' ∧ es = cs'.map (·.2)) ∧ (Z2 us n = none → n ∉ l.map (·.1) ∧ Z2 (Zmi bx' (Zez (Zfm nm)) (Zfm l) b) n = Z2 b n) := by
      intro l
      induction l with
      | nil => intro b us _ h n; injection h with h; subst h; exact ⟨fun es h => (by cases h), fun _ => ⟨by simp, rfl⟩⟩
      | cons p l ih =>
       obtain ⟨x, c⟩ := p
       intro b us hnd h n
       simp only [Ztx] at h
       split at h
       case h_2 => cases h
       rename_i cs1 us1 h1 h2
       injection h with h; subst h
       simp only [List.map_cons, List.nodup_cons] at hnd
       obtain ⟨i1, i2⟩ := ih (ins x (Cell.rens (Zez (Zfm nm)) cs1) b) us1 hnd.2 h2 n
       simp only [Zfm, Zmi, h1, Z2]
       by_cases hx : n = x
       ·subst hx
        rw [if_pos rfl]
        have hnone : Z2 us1 n = none := by
         cases hl : Z2 us1 n with
         | none => rfl
         | some es =>
          exfalso
          have key2 : ∀ (l : List (Nat × Nat)) (us : Upd), Ztx bx' (Zez (Zfm nm)) l = some us → Z2 us n ≠ none → n ∈ l.map (·.1) := by
           intro l
           induction l with
           | nil => intro us h hl; injection h with h; subst h; exact absurd rfl hl
           | cons p l ih =>
            obtain ⟨x, c⟩ := p
            intro us h hl
            simp only [Ztx] at h
            split at h
            case h_2 => cases h
            rename_i _ us1 _ h2
            injection h with h; subst h
            simp only [Z2] at hl
            by_cases e : n = x
            ·subst e; simp
            ·rw [if_neg e] at hl; simp only [List.map_cons]; exact List.mem_cons_of_mem _ (ih _ h2 hl)
          exact hnd.1 (key2 l us1 h2 (by rw [hl]; simp))
        obtain ⟨_, i4⟩ := i2 hnone
        refine ⟨fun es h => ?_, fun h => by cases h⟩
        injection h with h
        refine ⟨_, by rw [i4, ZjG, if_pos rfl], ?_⟩
        rw [← h, E.rens_map, Cell.rens_map, List.map_map, List.map_map]
        refine List.map_congr_left fun c _ => ?_
        obtain ⟨tk, e⟩ := c
        cases tk <;> rfl
       ·rw [if_neg hx]
        refine ⟨i1, fun h => ?_⟩
        obtain ⟨i3, i4⟩ := i2 h
        exact ⟨by simp only [List.map_cons, List.mem_cons, not_or]; exact ⟨hx, i3⟩, by rw [i4, ZjG, if_neg hx]⟩
     have hnd1 : (nm.map (·.1)).Nodup := by rw [ZeH, List.map_map] at hnd; exact hnd
     obtain ⟨k1, k2⟩ := key nm F.boxes us hnd1 hb n
     cases hl : Z2 us n with
     | some es =>
      rw [hl] at hc
      simp only [Option.some.injEq] at hc
      subst hc
      obtain ⟨cs', k3, k4⟩ := k1 es hl
      refine ⟨cs', k3, by simp [bare, k4], fun k c hk => ?_⟩
      rw [bare, k4, List.getElem?_map, List.getElem?_map] at hk
      cases hx : cs'[k]? with
      | none => rw [hx] at hk; cases hk
      | some x =>
       rw [hx] at hk
       simp only [Option.map_some, Option.some.injEq] at hk
       subst hk
       exact ⟨x, rfl, rfl, .inr rfl⟩
     | none =>
      rw [hl] at hc
      simp only at hc
      obtain ⟨k3, k4⟩ := k2 hl
      have k5 := hF n cs hc
      rw [if_neg (by rw [Zh2]; simpa using k3)] at k5
      exact ⟨cs, k4.trans k5, rfl, fun k c hk => ⟨c, hk, rfl, .inl rfl⟩⟩
  ·exact hv hnw hk
 ·exact hv (by cases hop : o.op <;> simp_all [Zoi]) hk
end

abbrev Res := D × Upd
section
variable (P : Program) [Gl P] (L : Tab) (nt : Nat) (ops : Array Oper) (m : Nat) (tch : List (List Nat))
def Zb8 (i : Nat) : Option Nat := (ops[i]?).bind (·.dst)
def Zqp (i : Nat) (o : Oper) (acc : AS) (R : Res) : Prop :=
 Zgn nt o.dst = true ∧
 ((o.guard = none ∧ ZcQ P L o (acc.mask (Zea ops m i) (Zng ops m tch i)) R.1 R.2 ∧ (ZpK (Zea ops m i) (Zhe (ops.toList.take m)) o.dst R.1 && Zmd (Zea ops m i) (tch.getD i []) R.2) = true) ∨
  ∃ j want g, o.guard = some (j, want) ∧ Zb8 ops j = some g ∧ ((∃ tk b, acc.get g = .c tk (.v (.bool b)) ∧
   ((b = want ∧ ZcQ P L o (acc.mask (Zea ops m i) (Zng ops m tch i)) R.1 R.2 ∧ (ZpK (Zea ops m i) (Zhe (ops.toList.take m)) o.dst R.1 && Zmd (Zea ops m i) (tch.getD i []) R.2) = true) ∨ (b = !want ∧ R = (.tup [], [])))) ∨ (acc.get g = .tup [] ∧ R = (.tup [], []))))
def runs : AS → List (Oper × Res) → AS
 | acc, [] => acc
 | acc, (o, R) :: l => runs (acc.add o.dst R.1 R.2) l
theorem Zua : ∀ (l : List (Oper × Res)) (acc : AS) (o : Oper) (R : Res), runs acc (l ++ [(o, R)]) = (runs acc l).add o.dst R.1 R.2
 | [], acc, o, R => rfl
 | (o', R') :: l, acc, o, R => Zua l _ o R
theorem ZvJ {S : AS} {i : Nat} {tk : Option (Nat × Nat)} {e : E} (h : S.get i = .c tk e) : S.put i (.c tk e) = S := by
 have key : ∀ l : List (Nat × D), (Z2 l i).getD .bot = .c tk e → ins i (.c tk e) l = l := by
  intro l
  induction l with
  | nil => intro h; simp [Z2] at h
  | cons p l ih =>
   obtain ⟨j, y⟩ := p
   intro h
   simp only [Z2] at h
   by_cases e : i = j
   ·subst e; rw [if_pos rfl, Option.getD_some] at h; subst h; simp [ins]
   ·rw [if_neg e] at h; simp [ins, e, ih h]
 obtain ⟨tm, bx⟩ := S
 simp only [AS.put]
 rw [key tm h]
theorem Zn2 : ∀ (rest : List Oper) (i : Nat) (acc : AS) (K : AS → Prop), Zow P L nt ops m tch rest i acc K →
  ∃ Rs : List Res, Rs.length = rest.length ∧ K (runs acc (rest.zip Rs)) ∧ ∀ k o R, rest[k]? = some o → Rs[k]? = some R → Zqp P L nt ops m tch (i + k) o (runs acc ((rest.zip Rs).take k)) R
 | [], i, acc, K, h => ⟨[], rfl, h, fun k o R h => by simp at h⟩
 | o :: rest, i, acc, K, h => by
  simp only [Zow, Zgs] at h
  obtain ⟨hd, h⟩ := h
  have step : ∀ R : Res, Zqp P L nt ops m tch i o acc R → Zow P L nt ops m tch rest (i + 1) (acc.add o.dst R.1 R.2) K →
    ∃ Rs : List Res, Rs.length = (o :: rest).length ∧ K (runs acc ((o :: rest).zip Rs)) ∧ ∀ k o' R, (o :: rest)[k]? = some o' → Rs[k]? = some R → Zqp P L nt ops m tch (i + k) o' (runs acc (((o :: rest).zip Rs).take k)) R := by
   intro R hf hk
   obtain ⟨Rs, h1, h2, h3⟩ := Zn2 rest (i + 1) _ K hk
   refine ⟨R :: Rs, by simp [h1], h2, fun k o' R' ho hR => ?_⟩
   cases k with
   | zero => simp only [List.getElem?_cons_zero, Option.some.injEq] at ho hR; subst ho hR; exact hf
   | succ k =>
    have := h3 k o' R' (by simpa using ho) (by simpa using hR)
    rwa [show i + (k + 1) = i + 1 + k by omega]
  split at h
  ·rename_i hg
   obtain ⟨d, bx, h1, h2, h3⟩ := h
   exact step (d, bx) ⟨hd, .inl ⟨hg, h1, h2⟩⟩ h3
  ·rename_i j want hg
   split at h
   case h_2 => exact h.elim
   rename_i g hj
   split at h
   case h_3 => exact h.elim
   case h_2 hb => exact step (.tup [], []) ⟨hd, .inr ⟨j, want, g, hg, hj, .inr ⟨hb, rfl⟩⟩⟩ h
   rename_i tk b hb
   by_cases hbw : b = want
   ·have hp : acc.put g (.c tk (.v (.bool want))) = acc := ZvJ (by rw [hb, hbw])
    rw [hp] at h
    obtain ⟨d, bx, h1, h2, h3⟩ := Zlc h hbw
    exact step (d, bx) ⟨hd, .inr ⟨j, want, g, hg, hj, .inl ⟨tk, b, hb, .inl ⟨hbw, h1, h2⟩⟩⟩⟩ h3
   ·have hbn : b = !want := by cases b <;> cases want <;> simp_all
    have hp : acc.put g (.c tk (.v (.bool (!want)))) = acc := ZvJ (by rw [hb, hbn])
    rw [hp] at h
    exact step (.tup [], []) ⟨hd, .inr ⟨j, want, g, hg, hj, .inl ⟨tk, b, hb, .inr ⟨hbn, rfl⟩⟩⟩⟩ (Zmq h hbn)
variable {ops m tch}
structure Zip (ops : Array Oper) (S : AS) (R : Nat → Res) (X : Nat → Prop) (T : AS) : Prop where
 get : ∀ t, (∃ i, X i ∧ Zb8 ops i = some t ∧ T.get t = (R i).1) ∨ ((∀ i, X i → Zb8 ops i ≠ some t) ∧ T.get t = S.get t)
 box : ∀ n, (∃ i es, X i ∧ Z2 (R i).2 n = some es ∧ T.box n = some (bare es) ∧ ∀ j, X j → Z2 (R j).2 n ≠ none → j = i ∨ j ∈ Zct ops i) ∨ ((∀ i, X i → Z2 (R i).2 n = none) ∧ T.box n = S.box n)
theorem Zip.start (S : AS) (R : Nat → Res) (X : Nat → Prop) (hX : ∀ i, ¬ X i) : Zip ops S R X S := ⟨fun t => .inr ⟨fun i h => absurd h (hX i), rfl⟩, fun n => .inr ⟨fun i h => absurd h (hX i), rfl⟩⟩
theorem Zip.at_ {S : AS} {R : Nat → Res} {X : Nat → Prop} {T : AS} (h : Zip ops S R X T) (huniq : ∀ i j t, X i → X j → Zb8 ops i = some t → Zb8 ops j = some t → i = j) {i t : Nat} (hi : X i) (ht : Zb8 ops i = some t) : T.get t = (R i).1 := by
 rcases h.get t with ⟨j, hj, hjt, e⟩ | ⟨hno, _⟩
 ·rw [huniq i j t hi hj ht hjt]; exact e
 ·exact absurd ht (hno i hi)
theorem Zip.off {S : AS} {R : Nat → Res} {X : Nat → Prop} {T : AS} (h : Zip ops S R X T) {t : Nat} (hno : ∀ i, X i → Zb8 ops i ≠ some t) : T.get t = S.get t := by
 rcases h.get t with ⟨j, hj, hjt, _⟩ | ⟨_, e⟩
 ·exact absurd hjt (hno j hj)
 ·exact e
theorem Zip.same {S : AS} {R : Nat → Res} {X Y : Nat → Prop} {T A : AS} (h : Zip ops S R X T) (k : Zip ops S R Y A) (hlt : ∀ i j, j ∈ Zct ops i → j < i) {n : Nat} (hxy : ∀ i, Z2 (R i).2 n ≠ none → (X i ↔ Y i)) : T.box n = A.box n := by
 rcases h.box n with ⟨i, es, hi, hu, e, hl⟩ | ⟨hno, e⟩
 ·have hui : Z2 (R i).2 n ≠ none := by rw [hu]; simp
  rcases k.box n with ⟨j, es', hj, hu', e', hl'⟩ | ⟨hno', _⟩
  ·have huj : Z2 (R j).2 n ≠ none := by rw [hu']; simp
   have : i = j := by
    rcases hl j ((hxy j huj).2 hj) huj with h1 | h1
    ·exact h1.symm
    ·rcases hl' i ((hxy i hui).1 hi) hui with h2 | h2
     ·exact h2
     ·have := hlt _ _ h1; have := hlt _ _ h2; omega
   subst this
   rw [hu] at hu'
   injection hu' with hu'
   rw [e, e', hu']
  ·exact absurd (hno' i ((hxy i hui).1 hi)) hui
 ·rcases k.box n with ⟨j, es', hj, hu', e', hl'⟩ | ⟨_, e'⟩
  ·have huj : Z2 (R j).2 n ≠ none := by rw [hu']; simp
   exact absurd (hno j ((hxy j huj).2 hj)) huj
  ·rw [e, e']
theorem Zip.step {S : AS} {R : Nat → Res} {X : Nat → Prop} {T T' : AS} (h : Zip ops S R X T) {i : Nat}
  (hord : ∀ n j, Z2 (R i).2 n ≠ none → X j → Z2 (R j).2 n ≠ none → j ∈ Zct ops i)
  (hget : ∀ t, T'.get t = if Zb8 ops i = some t then (R i).1 else T.get t) (hbox : ∀ n, T'.box n = match Z2 (R i).2 n with | some es => some (bare es) | none => T.box n) :
  Zip ops S R (fun j => X j ∨ j = i) T' := by
 constructor
 ·intro t
  rw [hget]
  by_cases he : Zb8 ops i = some t
  ·rw [if_pos he]; exact .inl ⟨i, .inr rfl, he, rfl⟩
  ·rw [if_neg he]
   rcases h.get t with ⟨j, hj, hjt, e⟩ | ⟨hno, e⟩
   ·exact .inl ⟨j, .inl hj, hjt, e⟩
   ·exact .inr ⟨fun j hj => hj.elim (hno j) (fun e' => e' ▸ he), e⟩
 ·intro n
  rw [hbox]
  cases hl : Z2 (R i).2 n with
  | some es =>
   refine .inl ⟨i, es, .inr rfl, hl, rfl, fun j hj hu => ?_⟩
   rcases hj with hj | hj
   ·exact .inr (hord n j (by rw [hl]; simp) hj hu)
   ·exact .inl hj
  | none =>
   rcases h.box n with ⟨j, es, hj, hu, e, hlast⟩ | ⟨hno, e⟩
   ·refine .inl ⟨j, es, .inl hj, hu, e, fun k hk hku => ?_⟩
    rcases hk with hk | rfl
    ·exact hlast k hk hku
    ·exact absurd hl hku
   ·refine .inr ⟨fun j hj => ?_, e⟩
    rcases hj with hj | rfl
    ·exact hno j hj
    ·exact hl
theorem Zhk {α : Type} (ts : List Nat) : ∀ (l : List (Nat × α)) (i : Nat), Z2 (l.filter fun p => !ts.contains p.1) i = if ts.contains i then none else Z2 l i
 | [], i => by simp [Z2]
 | (j, x) :: l, i => by
  simp only [List.filter_cons]
  by_cases h : ts.contains j
  ·simp only [h, Bool.not_true, Bool.false_eq_true, if_false, Zhk ts l i, Z2]
   by_cases hij : i = j
   ·subst hij; simp only [h, if_true]
   ·rw [if_neg hij]
  ·have h : ts.contains j = false := by simpa using h
   simp only [h, Bool.not_false, if_true, Z2, Zhk ts l i]
   by_cases hij : i = j
   ·subst hij; simp only [if_true, h, Bool.false_eq_true, if_false]
   ·simp only [if_neg hij]
theorem Zu1 (S : AS) (ts : List Nat) (i : Nat) : (S.cut ts).get i = if ts.contains i then .bot else ZBA ts (S.get i) := by
 simp only [AS.get, AS.cut, Zf9, ZfA, Zhk]
 split
 ·rfl
 ·cases Z2 S.tmps i <;> rfl
theorem ZuE (S : AS) (ts : List Nat) (n : Nat) : (S.cut ts).box n = if ts.contains n then none else (S.box n).map (·.map (Zzq ts)) := by
 simp only [AS.box, AS.cut, Zf9, ZfA, Zhk]
 split <;> rfl
theorem ZpV (S : AS) (ts : List Nat) (i : Nat) : (S.drop ts).get i = ((S.cut ts).get i).ren (Zj1 ts) := by
 simp only [AS.get, AS.drop, Zf9, ZfA]
 cases Z2 (S.cut ts).tmps i <;> rfl
theorem Zsj (S : AS) (ts : List Nat) (n : Nat) : (S.drop ts).box n = ((S.cut ts).box n).map (Cell.rens (Zj1 ts)) := by
 simp only [AS.box, AS.drop, Zf9, ZfA]
theorem Zv7 (S : AS) (ts : List Nat) : Zix S (S.cut ts) where
 get i := by
  rw [Zu1]
  split
  ·exact .inl rfl
  ·cases hd : S.get i with
   | c tk e => cases tk with
    | none => exact .inr (.inl rfl)
    | some q => obtain ⟨q1, q2⟩ := q; simp only [ZBA]; split; exact .inr (.inr ⟨_, _, rfl, rfl⟩); exact .inr (.inl rfl)
   | _ => exact .inr (.inl rfl)
 box n cs h := by
  rw [ZuE] at h
  split at h
  ·cases h
  ·cases hb : S.box n with
   | none => simp [hb] at h
   | some ds =>
    rw [hb] at h
    simp only [Option.map_some, Option.some.injEq] at h
    subst h
    refine ⟨ds, rfl, by simp, fun k c hc => ?_⟩
    rw [List.getElem?_map] at hc
    cases hk : ds[k]? with
    | none => simp [hk] at hc
    | some d =>
     rw [hk] at hc
     simp only [Option.map_some, Option.some.injEq] at hc
     subst hc
     refine ⟨d, rfl, ?_⟩
     obtain ⟨tk, e⟩ := d
     cases tk with
     | none => exact ⟨rfl, .inl rfl⟩
     | some q => obtain ⟨q1, q2⟩ := q; simp only [Zzq]; split; exact ⟨rfl, .inr rfl⟩; exact ⟨rfl, .inl rfl⟩
theorem Zuo {S : AS} (ts : List Nat) (hS : ∀ m cs, S.box m = some cs → m < CAP) : Zz4 (Zj1 ts) (S.cut ts) (S.drop ts) where
 get i := ZpV S ts i
 box m cs hb := by
  rw [Zsj, Option.map_eq_some_iff] at hb
  obtain ⟨ds, h1, rfl⟩ := hb
  have h2 := h1
  rw [ZuE] at h2
  split at h2
  ·cases h2
  ·rename_i hc
   rw [Option.map_eq_some_iff] at h2
   obtain ⟨ds0, h3, _⟩ := h2
   exact ⟨m, ds, by unfold Zj1; rw [if_neg hc, if_pos (hS m ds0 h3)], h1, rfl⟩
 one a b m h1 h2 := by obtain ⟨rfl, _⟩ := ZfY h1; exact (ZfY h2).1.symm
 lt a m h := by obtain ⟨rfl, _, h⟩ := ZfY h; exact h
theorem Ztg (S : AS) (ts : List Nat) : (S.drop ts).NOk (fun n => Nat.blt n CAP && !ts.contains n) := by
 have key : ∀ n m, Zj1 ts n = some m → (Nat.blt m CAP && !ts.contains m) = true := fun n m h => by
  obtain ⟨rfl, h1, h2⟩ := ZfY h
  simp only [Bool.and_eq_true, Nat.blt_eq, Bool.not_eq_true']
  exact ⟨h2, by simpa using h1⟩
 refine ⟨fun i => ?_, fun n cs h => ?_⟩
 ·rw [ZpV]; exact D.okN_ren key _
 ·rw [Zsj, Option.map_eq_some_iff] at h
  obtain ⟨ds, _, rfl⟩ := h
  exact Zyr key ds
theorem ZBK {f : Nat → Option Nat} {d : D} {t k : Nat} {e : E} (h : d.ren f = .c (some (t, k)) e) : ∃ e0, d = .c (some (t, k)) e0 := by
 cases d with
 | c tk e0 => cases tk with
  | none => simp [D.ren] at h
  | some q => obtain ⟨a, b⟩ := q; simp only [D.ren, D.c.injEq, Option.some.injEq, Prod.mk.injEq] at h; obtain ⟨⟨rfl, rfl⟩, _⟩ := h; exact ⟨e0, rfl⟩
 | ptr n o => simp only [D.ren] at h; split at h <;> cases h
 | ept n sz i o => simp only [D.ren] at h; split at h <;> cases h
 | _ => simp [D.ren] at h
theorem ZzQ (S : AS) (ts : List Nat) {t : Nat} (ht : t ∈ ts) (i k : Nat) (e : E) : (S.drop ts).get i ≠ .c (some (t, k)) e := by
 intro h
 rw [ZpV] at h
 obtain ⟨e0, h⟩ := ZBK h
 rw [Zu1] at h
 split at h
 ·cases h
 ·cases hd : S.get i with
  | c tk e => cases tk with
   | none => rw [hd] at h; cases h
   | some q => obtain ⟨q1, q2⟩ := q; rw [hd] at h; simp only [ZBA] at h; split at h <;> simp_all
  | _ => rw [hd] at h; cases h
theorem ZyB (S : AS) (ts : List Nat) {t : Nat} (ht : t ∈ ts) (n : Nat) (cs : List Cell) (hb : (S.drop ts).box n = some cs) (j k : Nat) (e : E) : cs[j]? ≠ some (some (t, k), e) := by
 intro h
 rw [Zsj, Option.map_eq_some_iff] at hb
 obtain ⟨ds, hb, rfl⟩ := hb
 obtain ⟨e0, h, _⟩ := Zmf h
 rw [ZuE] at hb
 split at hb
 ·cases hb
 ·rw [Option.map_eq_some_iff] at hb
  obtain ⟨es, _, rfl⟩ := hb
  rw [List.getElem?_map, Option.map_eq_some_iff] at h
  obtain ⟨⟨tk, e1⟩, _, h⟩ := h
  cases tk with
  | none => simp [Zzq] at h
  | some q => obtain ⟨q1, q2⟩ := q; simp only [Zzq] at h; split at h <;> simp_all
theorem Ztz {T : AS} {t : Nat} (h1 : ∀ i k e, T.get i ≠ .c (some (t, k)) e) (h2 : ∀ n cs, T.box n = some cs → ∀ (j k : Nat) (e : E), cs[j]? ≠ some (some (t, k), e)) : Zix (T.strip t) T where
 get i := by
  refine .inr (.inl ?_)
  rw [Zkb]
  cases hd : T.get i with
  | c tk e => cases tk with
   | none => rfl
   | some q =>
    obtain ⟨q1, q2⟩ := q
    simp only [Zn1]
    rw [if_neg]
    rintro rfl
    exact h1 i _ _ hd
  | _ => rfl
 box n cs hb := by
  refine ⟨cs.map (ZpD t), by rw [ZlO, hb]; rfl, by simp, fun k c hc => ⟨c, ?_, rfl, .inl rfl⟩⟩
  rw [List.getElem?_map, hc]
  obtain ⟨tk, e⟩ := c
  cases tk with
  | none => rfl
  | some q =>
   obtain ⟨q1, q2⟩ := q
   simp only [Option.map_some, ZpD]
   rw [if_neg]
   rintro rfl
   exact h2 n cs hb k _ _ hc
end

structure DOk (ops : Array Oper) (m : Nat) (tch : List (List Nat)) : Prop where
 touch : ∀ i j n, i < m → j < m → i ≠ j → n ∈ tch.getD i [] → n ∈ tch.getD j [] → j ∈ Zct ops i ∨ i ∈ Zct ops j
 hm : m ≤ ops.size
 dir : ∀ i o, ops[i]? = some o → ∀ j ∈ Zcs o, j < i
 guard : ∀ i o j want, ops[i]? = some o → o.guard = some (j, want) → j ∈ Zct ops i ∧ j < i
 tail : ∀ i, m ≤ i → i < ops.size → ∀ j, j < i → j ∈ Zct ops i
 own : ∀ i o t, i < m → ops[i]? = some o → o.dst = some t → t ∉ ZeZ o
 free : ∀ i o j t, i < m → ops[i]? = some o → j < m → j ≠ i → Zb8 ops j = some t → o.dst ≠ some t ∧ (t ∈ ZeZ o → j ∈ Zct ops i)
theorem ZEc {ops : Array Oper} {m : Nat} {tch : List (List Nat)} (h : ZsZ ops m tch = true) : DOk ops m tch := by
 unfold ZsZ at h
 rw [Bool.and_eq_true, Bool.and_eq_true] at h
 obtain ⟨⟨h0, h1⟩, h2⟩ := h
 have hm : m ≤ ops.size := of_decide_eq_true h1
 have key : ∀ i o, ops[i]? = some o → _ := fun i o ho => by
  have hi : i < ops.size := (Array.getElem?_eq_some_iff.1 ho).1
  have := List.all_eq_true.1 h2 i (List.mem_range.2 hi)
  rw [ho] at this
  exact this
 have key2 : ∀ i o, ops[i]? = some o → ((Zcs o).all (· < i) = true ∧ (match o.guard with | some (j, _) => (Zct ops i).contains j && decide (j < i) | none => true) = true ∧
   (if m ≤ i then (List.range i).all fun j => (Zct ops i).contains j
    else (match o.dst with | some t => !(ZeZ o).contains t | none => true) && (List.range m).all fun j => j == i || (match (ops[j]?).bind (·.dst) with
     | some t => !(o.dst == some t) && (!(ZeZ o).contains t || (Zct ops i).contains j) && (match o.guard with | some (g, _) => !((ops[g]?).bind (·.dst) == some t) || (Zct ops i).contains j | none => true)
     | none => true)) = true) := fun i o ho => by
  have := key i o ho
  rw [Bool.and_eq_true, Bool.and_eq_true] at this
  exact ⟨this.1.1, this.1.2, this.2⟩
 refine ⟨fun i j n hi hj hne h3 h4 => ?_, hm, fun i o ho j hj => ?_, fun i o j want ho hg => ?_, fun i hi hlt j hj => ?_, fun i o t hi ho hd => ?_, fun i o j t hi ho hj hne hd => ?_⟩
 ·have h5 := List.all_eq_true.1 h0 i (List.mem_range.2 hi)
  have h6 := List.all_eq_true.1 h5 j (List.mem_range.2 hj)
  simp only [Bool.or_eq_true, beq_iff_eq, hne, false_or] at h6
  have h7 := List.all_eq_true.1 h6 n h3
  simp only [Bool.or_eq_true, Bool.not_eq_true', List.contains_iff_mem] at h7
  rcases h7 with (h7 | h7) | h7
  ·have : (tch.getD j []).contains n = true := by simpa using h4
   rw [this] at h7; cases h7
  ·exact .inl h7
  ·exact .inr h7
 ·have := List.all_eq_true.1 (key2 i o ho).1 j hj
  simpa using this
 ·have := (key2 i o ho).2.1
  rw [hg] at this
  simp only [Bool.and_eq_true, List.contains_iff_mem, decide_eq_true_eq] at this
  exact this
 ·have ho : ops[i]? = some ops[i] := by simp [hlt]
  have := (key2 i _ ho).2.2
  rw [if_pos hi] at this
  have := List.all_eq_true.1 this j (List.mem_range.2 hj)
  simpa using this
 ·have := (key2 i _ ho).2.2
  rw [if_neg (by omega)] at this
  simp only [Bool.and_eq_true] at this
  have := this.1
  rw [hd] at this
  simpa using this
 ·have := (key2 i _ ho).2.2
  rw [if_neg (by omega)] at this
  simp only [Bool.and_eq_true] at this
  have := List.all_eq_true.1 this.2 j (List.mem_range.2 hj)
  have hd' : (ops[j]?).bind (·.dst) = some t := hd
  rw [hd'] at this
  simp only [Bool.or_eq_true, beq_iff_eq, hne, false_or, Bool.and_eq_true, Bool.not_eq_true', beq_eq_false_iff_ne, ne_eq] at this
  refine ⟨this.1.1, fun ht => ?_⟩
  rcases this.1.2 with h' | h'
  ·simp [ht] at h'
  ·simpa using h'
theorem Zob : ∀ (os : List Oper) (acc : List (List Nat)) (j : Nat), j < acc.length → (Zh9 os acc).getD j [] = acc.getD j []
 | [], acc, j, _ => rfl
 | o :: os, acc, j, hj => by
  simp only [Zh9]
  rw [Zob os _ j (by simp; omega)]
  simp [List.getD, List.getElem?_append_left hj]
theorem ZqR : ∀ (os : List Oper) (acc : List (List Nat)) (k : Nat) (o : Oper), os[k]? = some o →
  (Zh9 os acc).getD (acc.length + k) [] = nub (Zcs o ++ (Zcs o).flatMap fun j => if j < acc.length + k then (Zh9 os acc).getD j [] else [])
 | [], acc, k, o, h => by simp at h
 | o' :: os, acc, 0, o, h => by
  simp only [List.getElem?_cons_zero, Option.some.injEq] at h
  subst h
  simp only [Zh9, Nat.add_zero]
  rw [Zob os _ acc.length (by simp)]
  have h1 : (acc ++ [nub (Zcs o' ++ (Zcs o').flatMap fun j => acc.getD j [])]).getD acc.length [] = nub (Zcs o' ++ (Zcs o').flatMap fun j => acc.getD j []) := by simp [List.getD]
  rw [h1]
  congr 1
  congr 1
  congr 1
  funext j
  by_cases hj : j < acc.length
  ·rw [if_pos hj, Zob os _ j (by simp; omega)]; simp [List.getD, List.getElem?_append_left hj]
  ·rw [if_neg hj]; simp [List.getD, List.getElem?_eq_none (Nat.le_of_not_lt hj)]
 | o' :: os, acc, k + 1, o, h => by
  simp only [Zh9]
  have := ZqR os (acc ++ [nub (Zcs o' ++ (Zcs o').flatMap fun j => acc.getD j [])]) k o (by simpa using h)
  simp only [List.length_append, List.length_cons, List.length_nil] at this
  rw [show acc.length + (k + 1) = acc.length + (0 + 1) + k by omega]
  exact this
theorem Zp2 {ops : Array Oper} {i : Nat} {o : Oper} (ho : ops[i]? = some o) (hd : ∀ j ∈ Zcs o, j < i) : ∀ k, k ∈ Zct ops i ↔ k ∈ Zcs o ∨ ∃ j ∈ Zcs o, k ∈ Zct ops j := by
 intro k
 have h := ZqR ops.toList [] i o (by simpa using ho)
 simp only [List.length_nil, Nat.zero_add] at h
 unfold Zct ZD2
 rw [h, Zx7, List.mem_append, List.mem_flatMap]
 constructor
 ·rintro (h1 | ⟨j, hj, hk⟩)
  ·exact .inl h1
  ·rw [if_pos (hd j hj)] at hk; exact .inr ⟨j, hj, hk⟩
 ·rintro (h1 | ⟨j, hj, hk⟩)
  ·exact .inl h1
  ·exact .inr ⟨j, hj, by rw [if_pos (hd j hj)]; exact hk⟩
theorem ZmJ {ops : Array Oper} {i : Nat} (h : ops[i]? = none) : Zct ops i = [] := by
 have hlen : ∀ (os : List Oper) (acc : List (List Nat)), (Zh9 os acc).length = acc.length + os.length := by
  intro os
  induction os with
  | nil => intro acc; simp [Zh9]
  | cons o os ih => intro acc; simp [Zh9, ih]; omega
 unfold Zct ZD2
 have : ops.size ≤ i := by simpa using h
 simp [List.getD, List.getElem?_eq_none (show (Zh9 ops.toList []).length ≤ i by rw [hlen]; simp; omega)]
section
variable {ops : Array Oper} {m : Nat} {tch : List (List Nat)} (ok : DOk ops m tch)
include ok in
theorem Zkx {X : Nat → Prop} (hcl : ∀ j o, X j → ops[j]? = some o → ∀ k ∈ Zcs o, X k) : ∀ i o, ops[i]? = some o → (∀ k ∈ Zcs o, X k) → ∀ k ∈ Zct ops i, X k := by
 intro i
 induction i using Nat.strongRecOn with
 | _ i ih =>
  intro o ho hd k hk
  rcases (Zp2 ho (ok.dir i o ho) k).1 hk with h | ⟨j, hj, hk⟩
  ·exact hd k h
  ·have hji := ok.dir i o ho j hj
   cases hoj : ops[j]? with
   | none => rw [ZmJ hoj] at hk; simp at hk
   | some oj => exact ih j hji oj hoj (hcl j oj (hd j hj) hoj) k hk
include ok in
theorem Zpz : ∀ i k, k ∈ Zct ops i → k < i := by
 intro i
 induction i using Nat.strongRecOn with
 | _ i ih =>
  intro k hk
  cases ho : ops[i]? with
  | none => rw [ZmJ ho] at hk; simp at hk
  | some o =>
   rcases (Zp2 ho (ok.dir i o ho) k).1 hk with h | ⟨j, hj, hk⟩
   ·exact ok.dir i o ho k h
   ·have := ok.dir i o ho j hj; have := ih j this k hk; omega
include ok in
theorem ZzL (i j t : Nat) (hi : i < m) (hj : j < m) (h1 : Zb8 ops i = some t) (h2 : Zb8 ops j = some t) : i = j := by
 rcases Nat.decEq i j with hne | he
 ·cases ho : ops[i]? with
  | none => simp [Zb8, ho] at h1
  | some o =>
   have := (ok.free i o j t hi ho hj (fun e => hne e.symm) h2).1
   simp only [Zb8, ho, Option.bind_some] at h1
   exact absurd h1 this
 ·exact he
theorem ZAi (S : AS) (ts bs : List Nat) (i : Nat) : (S.mask ts bs).get i = if ts.contains i then .bot else S.get i := by
 simp only [AS.get, AS.mask, Zhk]; split <;> rfl
theorem ZAa (S : AS) (ts bs : List Nat) (n : Nat) : (S.mask ts bs).box n = if bs.contains n then none else S.box n := by
 simp only [AS.box, AS.mask, Zhk]
theorem ZyV {i j n : Nat} (hj : j < m) (hne : j ≠ i) (h1 : j ∉ Zct ops i) (h2 : i ∉ Zct ops j) (hn : n ∈ tch.getD j []) : n ∈ Zng ops m tch i := by
 unfold Zng
 rw [List.mem_flatMap]
 refine ⟨j, List.mem_range.2 hj, ?_⟩
 rw [if_neg]
 ·exact hn
 ·simp only [Bool.or_eq_true, beq_iff_eq, List.contains_iff_mem, not_or]; exact ⟨⟨hne, h1⟩, h2⟩
theorem ZpS {i t : Nat} : t ∈ Zea ops m i ↔ ∃ j, j < m ∧ j ∉ Zct ops i ∧ Zb8 ops j = some t := by
 unfold Zea
 rw [List.mem_filterMap]
 constructor
 ·rintro ⟨j, hj, h⟩
  split at h
  ·cases h
  ·rename_i hc; exact ⟨j, List.mem_range.1 hj, by simpa using hc, h⟩
 ·rintro ⟨j, hj, hn, h⟩
  exact ⟨j, List.mem_range.2 hj, by rw [if_neg (by simpa using hn)]; exact h⟩
end

section
variable {P : Program} [Gl P] {L : Tab} (hL : TOk P L) {nt : Nat} (hnt : nt ≤ EXT) {w0 : World} {M0 : Nat → Prop} {S0 : ZaA} {ρ0 : Nat → Nat} {df : List Deferred} {ops : Array Oper} {m : Nat} {tch : List (List Nat)} (ok : DOk ops m tch)
def ZAN (ops : Array Oper) (m : Nat) (S : AS) : AS := S.drop (Zhe (ops.toList.take m))
theorem Zy8 {t : Nat} : t ∈ Zhe (ops.toList.take m) ↔ ∃ i, i < m ∧ Zb8 ops i = some t := by
 unfold Zhe
 rw [List.mem_filterMap]
 constructor
 ·rintro ⟨o, ho, hd⟩
  obtain ⟨i, hi⟩ := List.getElem?_of_mem ho
  rw [List.getElem?_take] at hi
  split at hi
  ·rename_i hlt
   rw [Array.getElem?_toList] at hi
   exact ⟨i, hlt, by simp [Zb8, hi, hd]⟩
  ·cases hi
 ·rintro ⟨i, hi, hd⟩
  unfold Zb8 at hd
  cases ho : ops[i]? with
  | none => simp [ho] at hd
  | some o =>
   rw [ho] at hd
   refine ⟨o, ?_, hd⟩
   have : (ops.toList.take m)[i]? = some o := by rw [List.getElem?_take, if_pos hi, Array.getElem?_toList, ho]
   exact List.mem_of_getElem? this
variable {S : AS} {R : Nat → Res}
structure ZAH (P : Program) [Gl P] (L : Tab) (nt : Nat) (ops : Array Oper) (m : Nat) (tch : List (List Nat)) (S : AS) (R : Nat → Res) (accs : Nat → AS) : Prop where
 fact : ∀ i o, i < m → ops[i]? = some o → Zqp P L nt ops m tch i o (accs i) (R i)
 spec : ∀ k, k ≤ m → Zip ops (ZAN ops m S) R (· < k) (accs k)
theorem ZBb {hd tc : List Nat} {us : Upd} (h : Zmd hd tc us = true) {n : Nat} (hl : Z2 us n ≠ none) : n ∈ tc := by
 induction us with
 | nil => exact absurd rfl hl
 | cons p us ih =>
  obtain ⟨k, es⟩ := p
  simp only [Zmd, List.all_cons, Bool.and_eq_true] at h
  simp only [Z2] at hl
  by_cases e : n = k
  ·subst e; simpa using h.1.1
  ·rw [if_neg e] at hl; exact ih h.2 hl
theorem Zyh {hd tc : List Nat} {us : Upd} (h : Zmd hd tc us = true) {n : Nat} {es : List E} (hl : Z2 us n = some es) : E.okNs (nOk hd none) es = true := by
 induction us with
 | nil => cases hl
 | cons p us ih =>
  obtain ⟨k, es'⟩ := p
  simp only [Zmd, List.all_cons, Bool.and_eq_true] at h
  simp only [Z2] at hl
  by_cases e : n = k
  ·rw [if_pos e] at hl; injection hl with hl; subst hl; exact h.1.2
  ·rw [if_neg e] at hl; exact ih h.2 hl
theorem ZBe {hd : List Nat} {self : Option Nat} {n : Nat} (h : nOk hd none n = true) : nOk hd self n = true := by
 simp only [nOk, Bool.and_eq_true, Bool.or_eq_true] at h ⊢
 refine ⟨h.1, ?_⟩
 rcases h.2 with h2 | h2
 ·exact .inl h2
 ·cases h2
theorem ZrZ {i : Nat} {o : Oper} {acc : AS} {R : Res} (h : Zqp P L nt ops m tch i o acc R) {n : Nat} (hl : Z2 R.2 n ≠ none) : n ∈ tch.getD i [] := by
 have key : ∀ {b : Bool}, (b && Zmd (Zea ops m i) (tch.getD i []) R.2) = true → n ∈ tch.getD i [] := fun hb => ZBb (by rw [Bool.and_eq_true] at hb; exact hb.2) hl
 obtain ⟨_, hf⟩ := h
 rcases hf with ⟨_, _, h3⟩ | ⟨_, _, _, _, _, ⟨_, _, _, ⟨_, _, h3⟩ | ⟨_, h3⟩⟩ | ⟨_, h3⟩⟩
 ·exact key h3
 ·exact key h3
 ·rw [h3] at hl; exact absurd rfl hl
 ·rw [h3] at hl; exact absurd rfl hl
include ok in
theorem Zzr {K : AS → Prop} (h : Zow P L nt ops m tch (ops.toList.take m) 0 (ZAN ops m S) K) : ∃ R accs, ZAH P L nt ops m tch S R accs ∧ K (accs m) := by
 obtain ⟨Rs, h1, h2, h3⟩ := Zn2 P L nt ops m tch _ 0 _ K h
 have hlen : (ops.toList.take m).length = m := by rw [List.length_take, Array.length_toList]; have := ok.hm; omega
 have hzl : ((ops.toList.take m).zip Rs).length = m := by rw [List.length_zip, h1, hlen]; omega
 let R : Nat → Res := fun i => (Rs[i]?).getD (.bot, [])
 let accs : Nat → AS := fun k => runs (ZAN ops m S) (((ops.toList.take m).zip Rs).take k)
 have hR : ∀ i, i < m → Rs[i]? = some (R i) := fun i hi => by
  have : i < Rs.length := by omega
  simp [R, this]
 have hop : ∀ i o, i < m → ops[i]? = some o → (ops.toList.take m)[i]? = some o := fun i o hi ho => by rw [List.getElem?_take, if_pos hi, Array.getElem?_toList, ho]
 have hfact : ∀ i o, i < m → ops[i]? = some o → Zqp P L nt ops m tch i o (accs i) (R i) := fun i o hi ho => by
  have := h3 i o (R i) (hop i o hi ho) (hR i hi)
  rwa [Nat.zero_add] at this
 refine ⟨R, accs, ⟨hfact, fun k hk => ?_⟩, ?_⟩
 ·induction k with
  | zero => exact Zip.start _ _ _ (fun i h => by omega)
  | succ k ih =>
   have hk' : k < m := by omega
   have hko : k < ops.size := by have := ok.hm; omega
   have ho : ops[k]? = some (ops[k]'hko) := by simp [hko]
   have hz : ((ops.toList.take m).zip Rs)[k]? = some (ops[k]'hko, R k) := by
    rw [List.getElem?_zip_eq_some]
    exact ⟨hop k _ hk' ho, hR k hk'⟩
   have hrun : accs (k + 1) = (accs k).add (ops[k]'hko).dst (R k).1 (R k).2 := by
    show runs _ _ = _
    have hz2 := (List.getElem?_eq_some_iff.1 hz).2
    rw [List.take_succ_eq_append_getElem (by omega), hz2]
    exact Zua _ _ _ _
   have hdst : Zb8 ops k = (ops[k]'hko).dst := by simp [Zb8, ho]
   have := (ih (by omega)).step (T' := accs (k + 1)) (i := k) (fun n j h4 h5 h6 => by
     rcases ok.touch k j n hk' (by omega) (by omega) (ZrZ (hfact k _ hk' ho) h4) (ZrZ (hfact j (ops[j]'(by omega)) (by omega) (by simp [show j < ops.size by omega])) h6) with h7 | h7
     ·exact h7
     ·have := Zpz ok j k h7; omega) (fun t => ?_) (fun n => ?_)
   ·refine ⟨fun t => ?_, fun n => ?_⟩
    ·rcases this.get t with ⟨j, hj, e⟩ | ⟨hno, e⟩
     ·exact .inl ⟨j, by omega, e⟩
     ·exact .inr ⟨fun j hj => hno j (by omega), e⟩
    ·rcases this.box n with ⟨j, es, hj, h7, h8, h9⟩ | ⟨hno, e⟩
     ·exact .inl ⟨j, es, by omega, h7, h8, fun i hi => h9 i (by omega)⟩
     ·exact .inr ⟨fun j hj => hno j (by omega), e⟩
   ·rw [hrun, hdst, AS.add, Zr1, ZjX]
   ·rw [hrun, AS.add, Zl5, Zj0]; try (cases Z2 (R k).2 n <;> rfl)
 ·show K (runs _ _)
  rw [List.take_of_length_le (by omega)]
  exact h2
structure Ph1 (P : Program) [Gl P] (nt : Nat) (df : List Deferred) (w0 : World) (M0 : Nat → Prop) (S0 : ZaA) (ρ0 : Nat → Nat) (ops : Array Oper) (m : Nat) (S : AS) (R : Nat → Res) (X : Nat → Prop) (a : Act) (w : World) : Prop where
 lt : ∀ i, X i → i < m
 cl : ∀ j o, X j → ops[j]? = some o → ∀ k ∈ Zcs o, X k
 rel : ∃ T, Zip ops (ZAN ops m S) R X T ∧ Zcv P nt df w0 M0 S0 ρ0 T a w
variable {accs : Nat → AS} (F : ZAH P L nt ops m tch S R accs)
theorem Zip.mono_iff {S : AS} {R : Nat → Res} {X Y : Nat → Prop} {T : AS} (h : Zip ops S R X T) (he : ∀ i, X i ↔ Y i) : Zip ops S R Y T := by
 have : X = Y := funext fun i => propext (he i)
 rw [← this]; exact h
include ok F in
theorem ZyX {X : Nat → Prop} (hlt : ∀ i, X i → i < m) {T : AS} (hT : Zip ops (ZAN ops m S) R X T) {i : Nat} {o : Oper} (hi : i < m) (hX : ¬ X i) (ho : ops[i]? = some o) (hpre : ∀ k ∈ Zct ops i, X k) (hcl : ∀ j, X j → ∀ k ∈ Zct ops j, X k) :
  (∀ x ∈ o.op.operands, ((accs i).mask (Zea ops m i) (Zng ops m tch i)).ev x = T.ev x) ∧ (∀ n cs, ((accs i).mask (Zea ops m i) (Zng ops m tch i)).box n = some cs → T.box n = some cs) ∧ ∀ j g, j ∈ Zct ops i → Zb8 ops j = some g → (accs i).get g = T.get g := by
 have hA := F.spec i (Nat.le_of_lt hi)
 have huA : ∀ i' j t, i' < i → j < i → Zb8 ops i' = some t → Zb8 ops j = some t → i' = j := fun i' j t h1 h2 => ZzL ok i' j t (by omega) (by omega)
 have huX : ∀ i' j t, X i' → X j → Zb8 ops i' = some t → Zb8 ops j = some t → i' = j := fun i' j t h1 h2 => ZzL ok i' j t (hlt _ h1) (hlt _ h2)
 have same : ∀ j g, j ∈ Zct ops i → Zb8 ops j = some g → (accs i).get g = T.get g := fun j g hj hg => by
  have hji := Zpz ok i j hj
  exact (hA.at_ huA hji hg).trans (hT.at_ huX (hpre j hj) hg).symm
 have off : ∀ t, (∀ j, j < m → Zb8 ops j ≠ some t) → (accs i).get t = T.get t := fun t ht =>
  (hA.off (t := t) (fun j hj => ht j (by omega))).trans (hT.off (t := t) (fun j hj => ht j (hlt j hj))).symm
 refine ⟨fun x hx => ?_, fun n cs hn => ?_, fun j g hj hg => same j g hj hg⟩
 ·cases x with
  | tmp t =>
   have htm : t ∈ ZeZ o := by
    unfold ZeZ
    rw [List.mem_filterMap]
    exact ⟨.tmp t, by simpa using hx, rfl⟩
   simp only [AS.ev]
   rw [ZAi]
   by_cases hd : ∃ j, j < m ∧ Zb8 ops j = some t
   ·obtain ⟨j, hj, hjt⟩ := hd
    have hji : j ≠ i := by
     rintro rfl
     exact ok.own j o t hj ho (by simpa [Zb8, ho] using hjt) htm
    have hpj := (ok.free i o j t hi ho hj hji hjt).2 htm
    rw [if_neg, same j t hpj hjt]
    intro hc
    have hc : t ∈ Zea ops m i := by simpa using hc
    obtain ⟨k, hk, hnk, hkt⟩ := ZpS.1 hc
    rw [ZzL ok k j t hk hj hkt hjt] at hnk
    exact hnk hpj
   ·have hno : ∀ j, j < m → Zb8 ops j ≠ some t := fun j hj he => hd ⟨j, hj, he⟩
    rw [if_neg, off t hno]
    intro hc
    have hc : t ∈ Zea ops m i := by simpa using hc
    obtain ⟨k, hk, _, hkt⟩ := ZpS.1 hc
    exact hno k hk hkt
  | const v => rfl
  | global g => rfl
  | func f => rfl
 ·rw [ZAa] at hn
  split at hn
  ·cases hn
  ·rename_i hc
   have hc : n ∉ Zng ops m tch i := by simpa using hc
   have hxy : ∀ j, Z2 (R j).2 n ≠ none → (X j ↔ j < i) := fun j hu => by
    rcases Nat.lt_or_ge j m with hjm | hjm
    ·have hjs : j < ops.size := by have := ok.hm; omega
     have hin := ZrZ (F.fact j (ops[j]'hjs) hjm (by simp [hjs])) hu
     rcases Nat.decEq j i with hne | rfl
     ·rcases Classical.em (j ∈ Zct ops i) with h1 | h1
      ·exact ⟨fun _ => Zpz ok i j h1, fun _ => hpre j h1⟩
      ·rcases Classical.em (i ∈ Zct ops j) with h2 | h2
       ·have := Zpz ok j i h2
        exact ⟨fun hj => absurd (hcl j hj i h2) hX, fun hj => by omega⟩
       ·exact absurd (ZyV hjm hne h1 h2 hin) hc
     ·exact ⟨fun h => absurd h hX, fun h => by omega⟩
    ·exact ⟨fun h => by have := hlt j h; omega, fun h => by omega⟩
   rw [hT.same hA (Zpz ok) hxy]; exact hn
theorem ZBr {o : Oper} {env : AS} {d : D} {us : Upd} (h : ZcQ P L o env d us) (hn : Zoi o.op = true) {u : Nat} (hu : o.dst = some u) : Z2 us u ≠ none := by
 unfold ZcQ at h
 cases hop : o.op with
 | box t x =>
  rw [hop, hu] at h
  simp only at h
  split at h
  ·rename_i t' es h1 _
   injection h1 with h1
   subst h1
   rw [h.2]; simp [Z2]
  ·exact h.elim
 | alloc t =>
  rw [hop, hu] at h
  simp only at h
  split at h
  ·rename_i u' z h1 _
   injection h1 with h1
   subst h1
   rw [h.2]; simp [Z2]
  ·exact h.elim
 | makeMap t r =>
  rw [hop, hu] at h
  simp only at h
  split at h
  ·rename_i u' k v h1 _
   injection h1 with h1
   subst h1
   rw [h.2.2.2]; simp [Z2]
  ·exact h.elim
 | _ => rw [hop] at hn; cases hn
include hL hnt ok F in
theorem ZwN {X : Nat → Prop} {a : Act} {w : World} (h : Ph1 P nt df w0 M0 S0 ρ0 ops m S R X a w) {i : Nat} {o : Oper} (hi : i < m) (hX : ¬ X i) (ho : ops[i]? = some o) (hdir : ∀ k ∈ Zcs o, X k) {Q : Exit → Act → World → Prop} {next : Act → World → Prop}
  (hn : ∀ a' w', Ph1 P nt df w0 M0 S0 ρ0 ops m S R (fun j => X j ∨ j = i) a' w' → next a' w') : wpOp P ops Q i next a w := by
 obtain ⟨T, hT, hrel⟩ := h.rel
 have hpre := Zkx ok h.cl i o ho hdir
 have hclo : ∀ j, X j → ∀ k ∈ Zct ops j, X k := fun j hj => by
  have hjs : j < ops.size := by have := ok.hm; have := h.lt j hj; omega
  exact Zkx ok h.cl j (ops[j]'hjs) (by simp [hjs]) (h.cl j _ hj (by simp [hjs]))
 obtain ⟨hev, hbx, hgd⟩ := ZyX ok F h.lt hT hi hX ho hpre hclo
 obtain ⟨hdst, hfact⟩ := F.fact i o hi ho
 have hdo : Zb8 ops i = o.dst := by simp [Zb8, ho]
 have hcl' : ∀ j oj, (X j ∨ j = i) → ops[j]? = some oj → ∀ k ∈ Zcs oj, X k ∨ k = i := fun j oj hj hoj k hk => by
  rcases hj with hj | rfl
  ·exact .inl (h.cl j oj hj hoj k hk)
  ·rw [ho] at hoj; injection hoj with hoj; subst hoj; exact .inl (hdir k hk)
 have hlt' : ∀ j, (X j ∨ j = i) → j < m := fun j hj => hj.elim (h.lt j) (fun e => e ▸ hi)
 have hbase : ∀ t, Zb8 ops i = some t → t ∈ Zhe (ops.toList.take m) := fun t ht => Zy8.2 ⟨i, hi, ht⟩
 have hnew : ∀ t j, Zb8 ops i = some t → X j → Zb8 ops j ≠ some t := fun t j h1 h2 h3 => hX (ZzL ok i j t hi (h.lt j h2) h1 h3 ▸ h2)
 have hord : ∀ n j, Z2 (R i).2 n ≠ none → X j → Z2 (R j).2 n ≠ none → j ∈ Zct ops i := fun n j h1 h2 h3 => by
  have hjm := h.lt j h2
  have hjs : j < ops.size := by have := ok.hm; omega
  have hij : i ≠ j := fun e => hX (e ▸ h2)
  rcases ok.touch i j n hi hjm hij (ZrZ (F.fact i o hi ho) h1) (ZrZ (F.fact j (ops[j]'hjs) hjm (by simp [hjs])) h3) with h4 | h4
  ·exact h4
  ·exact absurd (hclo j h2 i h4) hX
 have hR : ∀ j, X j → ∃ oj, ops[j]? = some oj ∧ (ZpK (Zea ops m j) (Zhe (ops.toList.take m)) oj.dst (R j).1 = true) ∧ Zmd (Zea ops m j) (tch.getD j []) (R j).2 = true := fun j hj => by
  have hjm := h.lt j hj
  have hjs : j < ops.size := by have := ok.hm; omega
  obtain ⟨_, hf⟩ := F.fact j (ops[j]'hjs) hjm (by simp [hjs])
  refine ⟨ops[j]'hjs, by simp [hjs], ?_⟩
  rcases hf with ⟨_, _, h3⟩ | ⟨_, _, _, _, _, ⟨_, _, _, ⟨_, _, h3⟩ | ⟨_, h3⟩⟩ | ⟨_, h3⟩⟩
  ·rw [Bool.and_eq_true] at h3; exact h3
  ·rw [Bool.and_eq_true] at h3; exact h3
  ·rw [h3]; exact ⟨rfl, rfl⟩
  ·rw [h3]; exact ⟨rfl, rfl⟩
 have hN : ∀ q : Nat → Bool, (∀ j oj, X j → ops[j]? = some oj → ∀ n, nOk (Zea ops m j) oj.dst n = true → q n = true) → (∀ n, (Nat.blt n CAP && !(Zhe (ops.toList.take m)).contains n) = true → q n = true) → T.NOk q := fun q hq1 hq2 => by
  refine ⟨fun u => ?_, fun n cs hb => ?_⟩
  ·rcases hT.get u with ⟨j, hj, hju, e⟩ | ⟨_, e⟩
   ·obtain ⟨oj, hoj, hok, _⟩ := hR j hj
    rw [e]
    simp only [ZpK, Bool.and_eq_true] at hok
    exact D.okN_mono (hq1 j oj hj hoj) hok.2
   ·rw [e]; exact D.okN_mono hq2 ((Ztg S _).get u)
  ·rcases hT.box n with ⟨j, es, hj, hl, e', _⟩ | ⟨_, e'⟩
   ·obtain ⟨oj, hoj, _, hup⟩ := hR j hj
    rw [hb] at e'
    injection e' with e'
    subst e'
    exact Zxx (E.okNs_mono (fun n hn => hq1 j oj hj hoj n (ZBe hn)) es (Zyh hup hl))
   ·rw [hb] at e'
    intro c hc
    exact E.okN_mono hq2 c.2 ((Ztg S _).box n cs e'.symm c hc)
 have hcapN : T.NOk (Nat.blt · CAP) := hN _ (fun j oj _ _ n hn => by simp only [nOk, Bool.and_eq_true] at hn; exact hn.1) (fun n hn => by simp only [Bool.and_eq_true] at hn; exact hn.1)
 have hnames : ∀ t, Zb8 ops i = some t → T.NOk (fun n => Nat.blt n CAP && !Nat.beq n t) := fun t ht => by
  refine hN _ (fun j oj hj hoj n hn => ?_) (fun n hn => ?_)
  ·simp only [nOk, Bool.and_eq_true, Bool.or_eq_true, Bool.not_eq_true', beq_iff_eq] at hn ⊢
   refine ⟨hn.1, ?_⟩
   cases hb : Nat.beq n t with
   | false => rfl
   | true =>
    have := Nat.eq_of_beq_eq_true hb
    subst this
    exfalso
    rcases hn.2 with h1 | h1
    ·have : n ∈ Zea ops m j := ZpS.2 ⟨i, hi, fun hp => hX (by
      have : ∀ k ∈ Zct ops j, X k := Zkx ok h.cl j oj hoj (h.cl j oj hj hoj)
      exact this i hp), ht⟩
     have h1 : n ∉ Zea ops m j := by simpa using h1
     exact h1 this
    ·have h2 : Zb8 ops j = some n := by simp only [Zb8, hoj, Option.bind_some]; exact h1
     exact hnew n j ht hj h2
  ·simp only [Bool.and_eq_true, Bool.not_eq_true'] at hn ⊢
   refine ⟨hn.1, ?_⟩
   cases hb : Nat.beq n t with
   | false => rfl
   | true =>
    have := Nat.eq_of_beq_eq_true hb
    subst this
    have h1 : n ∉ Zhe (ops.toList.take m) := by simpa using hn.2
    exact absurd (hbase n ht) h1
 have hbutT : ∀ t n, (Nat.blt n CAP && !Nat.beq n t) = true → but t n = some n := fun t n hp => by
  simp only [Bool.and_eq_true, Bool.not_eq_true', Nat.blt_eq] at hp
  unfold but
  rw [if_neg, if_pos hp.1]
  rintro rfl
  have := hp.2
  simp at this
 have hnotok : ∀ u t k e, Zb8 ops i = some t → T.get u ≠ .c (some (t, k)) e := fun u t k e ht he => by
  rcases hT.get u with ⟨j, hj, hju, e'⟩ | ⟨_, e'⟩
  ·obtain ⟨oj, hoj, hok, _⟩ := hR j hj
   rw [← e', he] at hok
   have hmem := hbase t ht
   simp [ZpK, ZpP] at hok
   exact hok.1 hmem
  ·rw [he] at e'; exact ZzQ S _ (hbase t ht) u k e e'.symm
 have hnobt : ∀ t, Zb8 ops i = some t → ∀ n cs, T.box n = some cs → ∀ (j k : Nat) (e : E), cs[j]? ≠ some (some (t, k), e) := fun t ht n cs hb j k e he => by
  rcases hT.box n with ⟨j', es, hj', _, e', _⟩ | ⟨_, e'⟩
  ·rw [hb] at e'
   injection e' with e'
   subst e'
   simp only [bare, List.getElem?_map] at he
   cases hes : es[j]? <;> simp [hes] at he
  ·rw [hb] at e'; exact ZyB S _ (hbase t ht) n cs e'.symm j k e he
 have hstrip : ∀ u, o.dst = some u → Zix (T.strip u) T := fun u hu => Ztz (fun i' k e => hnotok i' u k e (hdo.trans hu)) (fun n cs hb => hnobt u (hdo.trans hu) n cs hb)
 have after : ∀ nw a' w', (nw = true → ∀ u, o.dst = some u → Z2 (R i).2 u ≠ none) → Zcv P nt df w0 M0 S0 ρ0 (T.addX nw o.dst (R i).1 (R i).2) a' w' → Ph1 P nt df w0 M0 S0 ρ0 ops m S R (fun j => X j ∨ j = i) a' w' := fun nw a' w' hnw h' => by
  refine ⟨hlt', hcl', _, hT.step hord (fun t => ?_) (fun n => ?_), h'⟩
  ·rw [hdo, AS.addX, Zr1, ZjX]
   by_cases e : o.dst = some t
   ·rw [if_pos e, if_pos e]
   ·rw [if_neg e, if_neg e]
    cases nw with
    | false => rfl
    | true =>
     cases hd : o.dst with
     | none => rfl
     | some u =>
      simp only [AS.killO]
      rw [ZkO]
      exact D.ren_ok (hbutT u) ((hnames u (hdo.trans hd)).get t)
  ·rw [AS.addX, Zl5, Zj0]
   cases hl : Z2 (R i).2 n with
   | some es => rfl
   | none =>
    simp only
    cases nw with
    | false => rfl
    | true =>
     cases hd : o.dst with
     | none => rfl
     | some u =>
      simp only [AS.killO]
      rw [ZiB, if_neg]
      ·cases hb : T.box n with
       | none => rfl
       | some cs => exact congrArg some (ZsJ (hbutT u) ((hnames u (hdo.trans hd)).box n cs hb))
      ·rintro rfl
       exact hnw rfl n hd hl
 have hes : ∀ u, o.dst = some u → ∀ p ∈ (R i).2, E.okNs (fun n => Nat.blt n CAP && !Nat.beq n u) p.2 = true := fun u hu p hp => by
  have hup : Zmd (Zea ops m i) (tch.getD i []) (R i).2 = true := by
   rcases hfact with ⟨_, _, h3⟩ | ⟨_, _, _, _, _, ⟨_, _, _, ⟨_, _, h3⟩ | ⟨_, h3⟩⟩ | ⟨_, h3⟩⟩
   ·rw [Bool.and_eq_true] at h3; exact h3.2
   ·rw [Bool.and_eq_true] at h3; exact h3.2
   ·rw [h3]; rfl
   ·rw [h3]; rfl
  have h1 := List.all_eq_true.1 hup p hp
  rw [Bool.and_eq_true] at h1
  refine E.okNs_mono (fun n hn => ?_) _ h1.2
  simp only [nOk, Bool.and_eq_true, Bool.or_eq_true, Bool.not_eq_true'] at hn ⊢
  refine ⟨hn.1, ?_⟩
  cases hb : Nat.beq n u with
  | false => rfl
  | true =>
   have := Nat.eq_of_beq_eq_true hb
   subst this
   exfalso
   rcases hn.2 with h2 | h2
   ·have h3 : n ∈ Zea ops m i := ZpS.2 ⟨i, hi, fun hp => absurd (Zpz ok i i hp) (by omega), hdo.trans hu⟩
    have h2 : n ∉ Zea ops m i := by simpa using h2
    exact h2 h3
   ·cases h2
 unfold wpOp
 simp only [ho]
 have hdo' : ZcQ P L o ((accs i).mask (Zea ops m i) (Zng ops m tch i)) (R i).1 (R i).2 → o.wp P a w next Q := fun hs =>
  Zrw hL hnt hstrip hcapN (fun _ u hu p hp => hes u hu p hp) hdst (ZlC hbx hev hs) hrel fun a' w' h' => hn a' w' (after _ a' w' (fun hnw u hu => ZBr hs hnw hu) h')
 rcases hfact with ⟨hg, hs, _⟩ | ⟨j, want, g, hg, hj, ⟨tk, b, hb, hcase⟩ | ⟨hb, hRi⟩⟩
 ·have hw : Region.wanted o (yielded ops a.tmps) = true := by simp [Region.wanted, hg]
  rw [if_pos hw]
  exact .inl (hdo' hs)
 ·obtain ⟨hjp, hji⟩ := ok.guard i o j want ho hg
  have hTg : T.get g = .c tk (.v (.bool b)) := by rw [← hgd j g hjp hj]; exact hb
  have hval : a.tmps.getD g undef = .bool b := by
   obtain ⟨_, _, St, ρ, h3, _⟩ := hrel
   have := h3.tmp g
   rw [hTg] at this
   exact (ZfF (d := .c tk (.v (.bool b))) this rfl).1
  have hw : Region.wanted o (yielded ops a.tmps) = (b == want) := by
   simp only [Region.wanted, hg]
   have hg2 : a.tmps[g]? = some (.bool b) := by
    rw [Array.getD_eq_getD_getElem?] at hval
    cases ht : a.tmps[g]? with
    | none => rw [ht] at hval; cases hval
    | some y => rw [ht] at hval; simp only [Option.getD_some] at hval; rw [hval]
   have hj' : (ops[j]?).bind (·.dst) = some g := hj
   have : yielded ops a.tmps j = some b := by simp only [yielded, hj', Option.bind_some, hg2]
   rw [this]; rfl
  rw [hw]
  rcases hcase with ⟨hbw, hs, _⟩ | ⟨hbn, hRi⟩
  ·subst hbw
   simp only [beq_self_eq_true, if_true]
   exact .inl (hdo' hs)
  ·have hf : (b == want) = false := by subst hbn; cases want <;> rfl
   rw [hf]
   simp only [Bool.false_eq_true, if_false]
   refine hn _ _ (after false _ _ (fun h => by cases h) ?_)
   rw [hRi]
   have := ZjJ hrel hdst
   cases hd : o.dst with
   | none => rw [hd] at this; exact this
   | some u => rw [hd] at this; exact this
 ·obtain ⟨hjp, hji⟩ := ok.guard i o j want ho hg
  have hTg : T.get g = .tup [] := by rw [← hgd j g hjp hj]; exact hb
  have hval : a.tmps.getD g undef = undef := by
   obtain ⟨_, _, St, ρ, h3, _⟩ := hrel
   have := h3.tmp g
   rw [hTg] at this
   obtain ⟨vs, hv, hl, _⟩ := this
   rw [hv]
   have : vs = [] := List.eq_nil_of_length_eq_zero hl.symm
   rw [this]; rfl
  have hw : Region.wanted o (yielded ops a.tmps) = false := by
   simp only [Region.wanted, hg]
   have hj' : (ops[j]?).bind (·.dst) = some g := hj
   have : yielded ops a.tmps j = none := by
    simp only [yielded, hj', Option.bind_some]
    rw [Array.getD_eq_getD_getElem?] at hval
    cases ht : a.tmps[g]? with
    | none => rfl
    | some y => rw [ht] at hval; simp only [Option.getD_some] at hval; rw [hval]; rfl
   rw [this]; rfl
  rw [hw]
  simp only [Bool.false_eq_true, if_false]
  refine hn _ _ (after false _ _ (fun h => by cases h) ?_)
  rw [hRi]
  have := ZjJ hrel hdst
  cases hd : o.dst with
  | none => rw [hd] at this; exact this
  | some u => rw [hd] at this; exact this
end

section
variable {P : Program} [Gl P] {L : Tab} (hL : TOk P L) {nt : Nat} (hnt : nt ≤ EXT) {w0 : World} {M0 : Nat → Prop} {S0 : ZaA} {ρ0 : Nat → Nat} {df : List Deferred} {ops : Array Oper} {m : Nat} {tch : List (List Nat)} (ok : DOk ops m tch)
variable {S : AS} {R : Nat → Res} {accs : Nat → AS} (F : ZAH P L nt ops m tch S R accs)
def Zdi (listed : Array Bool) (i : Nat) : Prop := listed.getD i false = true
def Ph2 (P : Program) [Gl P] (L : Tab) (nt : Nat) (df : List Deferred) (w0 : World) (M0 : Nat → Prop) (S0 : ZaA) (ρ0 : Nat → Nat) (ops : Array Oper) (m : Nat) (K : AS → Prop) (X : Nat → Prop) (a : Act) (w : World) : Prop :=
 ∃ k T, m ≤ k ∧ k ≤ ops.size ∧ (∀ i, X i ↔ i < k) ∧ ZmT P L nt ops (ops.toList.drop k) T K ∧ Zcv P nt df w0 M0 S0 ρ0 T a w
include ok F in
theorem ZtG {K : AS → Prop} {X : Nat → Prop} {a : Act} {w : World} (h : Ph1 P nt df w0 M0 S0 ρ0 ops m S R X a w) (hall : ∀ i, i < m → X i) (hK : ZmT P L nt ops (ops.toList.drop m) (accs m) K) : Ph2 P L nt df w0 M0 S0 ρ0 ops m K X a w := by
 obtain ⟨T, hT, hrel⟩ := h.rel
 have hX : ∀ i, X i ↔ i < m := fun i => ⟨h.lt i, hall i⟩
 have hT' := hT.mono_iff hX
 have hA := F.spec m (Nat.le_refl _)
 have hu : ∀ i j t, i < m → j < m → Zb8 ops i = some t → Zb8 ops j = some t → i = j := ZzL ok
 refine ⟨m, accs m, Nat.le_refl _, ok.hm, hX, hK, hrel.less ⟨fun t => .inr (.inl ?_), fun n cs hn => ⟨cs, ?_, rfl, fun k c hc => ⟨c, hc, rfl, .inl rfl⟩⟩⟩⟩
 ·rcases hA.get t with ⟨i, hi, hit, e⟩ | ⟨hno, e⟩
  ·rw [e]; exact (hT'.at_ hu hi hit).symm
  ·rw [e]; exact (hT'.off hno).symm
 ·rw [← hn]
  exact hT'.same hA (Zpz ok) fun i _ => Iff.rfl
theorem Zhq {listed : Array Bool} {i : Nat} (hi : i < listed.size) (j : Nat) : Zdi (listed.setIfInBounds i true) j ↔ Zdi listed j ∨ j = i := by
 unfold Zdi
 simp only [Array.getD_eq_getD_getElem?, Array.getElem?_setIfInBounds]
 by_cases h : i = j
 ·subst h; simp [hi]
 ·rw [if_neg h]
  constructor
  ·exact .inl
  ·rintro (h1 | h1)
   ·exact h1
   ·exact absurd h1.symm h
include hL hnt in
theorem Zth {K : AS → Prop} {k : Nat} {o : Oper} {rest : List Oper} {T : AS} {a : Act} {w : World} (ho : ops[k]? = some o) (hk : ZmT P L nt ops (o :: rest) T K) (h : Zcv P nt df w0 M0 S0 ρ0 T a w)
  {Q : Exit → Act → World → Prop} {next : Act → World → Prop} (hn : ∀ T' a' w', ZmT P L nt ops rest T' K → Zcv P nt df w0 M0 S0 ρ0 T' a' w' → next a' w') : wpOp P ops Q k next a w := by
 unfold wpOp
 simp only [ho]
 simp only [ZmT, Zgs] at hk
 split at hk
 ·rename_i hg
  have hw : Region.wanted o (yielded ops a.tmps) = true := by simp [Region.wanted, hg]
  rw [if_pos hw]
  exact .inl (ZeA hL hnt hk h fun S' a' w' hk' h' => hn S' a' w' hk' h')
 ·rename_i j want hg
  split at hk
  case h_2 => exact hk.elim
  rename_i g hj
  split at hk
  case h_3 => exact hk.elim
  case h_2 hb =>
   obtain ⟨hd, hk⟩ := hk
   have hval : a.tmps.getD g undef = undef := by
    obtain ⟨_, _, St, ρ, h3, _⟩ := h
    have := h3.tmp g
    rw [hb] at this
    obtain ⟨vs, hv, hl, _⟩ := this
    rw [hv]
    have : vs = [] := List.eq_nil_of_length_eq_zero hl.symm
    rw [this]; rfl
   have hw : Region.wanted o (yielded ops a.tmps) = false := by
    simp only [Region.wanted, hg]
    have : yielded ops a.tmps j = none := by
     simp only [yielded, hj, Option.bind_some]
     rw [Array.getD_eq_getD_getElem?] at hval
     cases ht : a.tmps[g]? with
     | none => rfl
     | some y => rw [ht] at hval; simp only [Option.getD_some] at hval; rw [hval]; rfl
    rw [this]; rfl
   rw [hw]
   simp only [Bool.false_eq_true, if_false]
   exact hn _ _ _ hk (ZjJ h hd)
  rename_i tk b hb
  obtain ⟨hd, hk⟩ := hk
  have hyes := fun e => Zlc hk e
  have hno := fun e => Zmq hk e
  have hval : a.tmps.getD g undef = .bool b := by
   obtain ⟨_, _, St, ρ, h3, _⟩ := h
   have := h3.tmp g
   rw [hb] at this
   exact (ZfF (d := .c tk (.v (.bool b))) this rfl).1
  have hw : Region.wanted o (yielded ops a.tmps) = (b == want) := by
   simp only [Region.wanted, hg]
   have hg2 : a.tmps[g]? = some (.bool b) := by
    rw [Array.getD_eq_getD_getElem?] at hval
    cases ht : a.tmps[g]? with
    | none => rw [ht] at hval; cases hval
    | some y => rw [ht] at hval; simp only [Option.getD_some] at hval; rw [hval]
   have : yielded ops a.tmps j = some b := by simp only [yielded, hj, Option.bind_some, hg2]
   rw [this]; rfl
  rw [hw]
  by_cases hbw : b = want
  ·subst hbw
   simp only [beq_self_eq_true, if_true]
   exact .inl (ZeA hL hnt (hyes rfl) (Zj6 h hb) fun S' a' w' hk' h' => hn S' a' w' hk' h')
  ·have hb2 : b = !want := by cases b <;> cases want <;> simp_all
   have hf : (b == want) = false := by simpa using hbw
   rw [hf]
   simp only [Bool.false_eq_true, if_false]
   subst hb2
   exact hn _ _ _ (hno rfl) (ZjJ (Zj6 h hb) hd)
theorem Zem {listed : Array Bool} (hs : listed.size = ops.size) {i : Nat} : i ∈ Region.ready .any ops listed ↔ ¬ Zdi listed i ∧ ∃ o, ops[i]? = some o ∧ ∀ k ∈ Zcs o, Zdi listed k := by
 rw [mem_ready]
 have h1 : (∃ o, ops[i]? = some o) → (listed.getD i true = false ↔ ¬ Zdi listed i) := fun ⟨o, ho⟩ => by
  have hi : i < listed.size := by rw [hs]; exact (Array.getElem?_eq_some_iff.1 ho).1
  unfold Zdi
  simp [Array.getD, hi]
 have h2 : ∀ o : Oper, (∀ e ∈ o.after, Region.binds .any e = true → listed.getD e.on false = true) ↔ ∀ k ∈ Zcs o, Zdi listed k := fun o => by
  unfold Zcs Zdi
  constructor
  ·intro h k hk
   obtain ⟨e, he, rfl⟩ := List.mem_map.1 hk
   rw [List.mem_filter] at he
   exact h e (by simpa using he.1) he.2
  ·intro h e he hb
   exact h e.on (List.mem_map.2 ⟨e, List.mem_filter.2 ⟨by simpa using he, hb⟩, rfl⟩)
 constructor
 ·rintro ⟨ha, o, ho, hb⟩
  exact ⟨(h1 ⟨o, ho⟩).1 ha, o, ho, (h2 o).1 hb⟩
 ·rintro ⟨ha, o, ho, hb⟩
  exact ⟨(h1 ⟨o, ho⟩).2 ha, o, ho, (h2 o).2 hb⟩
include ok in
theorem ZAI {listed : Array Bool} (hs : listed.size = ops.size) (hr : Region.ready .any ops listed = []) : ∀ i, i < ops.size → Zdi listed i := by
 intro i
 induction i using Nat.strongRecOn with
 | _ i ih =>
  intro hi
  rcases Classical.em (Zdi listed i) with h | h
  ·exact h
  ·exfalso
   have ho : ops[i]? = some (ops[i]'hi) := by simp [hi]
   have : i ∈ Region.ready .any ops listed := (Zem hs).2 ⟨h, _, ho, fun k hk => by
    have hki := ok.dir i _ ho k hk
    exact ih k hki (by omega)⟩
   rw [hr] at this
   simp at this
include hL hnt ok F in
theorem ZAv {K : AS → Prop} {Q : Exit → Act → World → Prop} (hK : ZmT P L nt ops (ops.toList.drop m) (accs m) K) (hQ : ∀ S' a' w', K S' → Zcv P nt df w0 M0 S0 ρ0 S' a' w' → Q .normal a' w') :
  ∀ (fuel : Nat) (listed : Array Bool) (a : Act) (w : World), listed.size = ops.size → listed.toList.count false = fuel →
   (Ph1 P nt df w0 M0 S0 ρ0 ops m S R (Zdi listed) a w ∨ Ph2 P L nt df w0 M0 S0 ρ0 ops m K (Zdi listed) a w) → wpAny P .any ops Q fuel listed a w := by
 have fin : ∀ (listed : Array Bool) (a : Act) (w : World), listed.size = ops.size → Region.ready .any ops listed = [] →
   (Ph1 P nt df w0 M0 S0 ρ0 ops m S R (Zdi listed) a w ∨ Ph2 P L nt df w0 M0 S0 ρ0 ops m K (Zdi listed) a w) → Q .normal a w := by
  intro listed a w hs hr h
  have hall := ZAI ok hs hr
  have h2 : Ph2 P L nt df w0 M0 S0 ρ0 ops m K (Zdi listed) a w := by
   rcases h with h | h
   ·exact ZtG ok F h (fun i hi => hall i (by have := ok.hm; omega)) hK
   ·exact h
  obtain ⟨k, T, hmk, hks, hX, hop, hrel⟩ := h2
  have hk : k = ops.size := by
   rcases Nat.lt_or_ge k ops.size with h' | h'
   ·have := (hX k).1 (hall k h'); omega
   ·omega
  subst hk
  rw [List.drop_of_length_le (by simp)] at hop
  exact hQ T a w hop hrel
 intro fuel
 induction fuel with
 | zero =>
  intro listed a w hs hc h
  have hr : Region.ready .any ops listed = [] := by
   rw [List.eq_nil_iff_forall_not_mem]
   intro i hi
   obtain ⟨hnd, o, ho, _⟩ := (Zem hs).1 hi
   have hlt : i < listed.size := by rw [hs]; exact (Array.getElem?_eq_some_iff.1 ho).1
   have hf : listed[i] = false := by unfold Zdi at hnd; simpa [Array.getD, hlt] using hnd
   have hmem : false ∈ listed.toList := by rw [← hf]; simp
   have := List.count_pos_iff.2 hmem
   omega
  exact ⟨hr, fin listed a w hs hr h⟩
 | succ fuel ih =>
  intro listed a w hs hc h
  refine ⟨fun hr => fin listed a w hs hr h, fun i hi => ?_⟩
  obtain ⟨hnd, o, ho, hdir⟩ := (Zem hs).1 hi
  have hlt : i < listed.size := by rw [hs]; exact (Array.getElem?_eq_some_iff.1 ho).1
  have hs' : (listed.setIfInBounds i true).size = ops.size := by simp [hs]
  have hc' : (listed.setIfInBounds i true).toList.count false = fuel := by
   have hf : listed.toList[i]'(by simpa using hlt) = false := by unfold Zdi at hnd; simpa [Array.getD, hlt] using hnd
   rw [Array.toList_setIfInBounds, List.count_set (by simpa using hlt)]
   simp only [hf, hc, beq_self_eq_true, if_true]
   simp
  have next1 : ∀ a' w', Ph1 P nt df w0 M0 S0 ρ0 ops m S R (fun j => Zdi listed j ∨ j = i) a' w' → wpAny P .any ops Q fuel (listed.setIfInBounds i true) a' w' := fun a' w' hp => by
   refine ih _ a' w' hs' hc' (.inl ?_)
   have : Zdi (listed.setIfInBounds i true) = fun j => Zdi listed j ∨ j = i := funext fun j => propext (Zhq hlt j)
   rw [this]; exact hp
  have round2 : Ph2 P L nt df w0 M0 S0 ρ0 ops m K (Zdi listed) a w → wpOp P ops Q i (wpAny P .any ops Q fuel (listed.setIfInBounds i true)) a w := fun ⟨k, T, hmk, hks, hX, hop, hrel⟩ => by
   have hik : i = k := by
    have h1 : k ≤ i := by
     rcases Nat.lt_or_ge i k with h' | h'
     ·exact absurd ((hX i).2 h') hnd
     ·exact h'
    rcases Nat.lt_or_ge k i with h' | h'
    ·exfalso
     have hcl : ∀ j oj, Zdi listed j → ops[j]? = some oj → ∀ k' ∈ Zcs oj, Zdi listed k' := fun j oj hj hoj k' hk' => (hX k').2 (by have := ok.dir j oj hoj k' hk'; have := (hX j).1 hj; omega)
     have hp := Zkx ok hcl i o ho hdir
     have := (hX k).1 (hp k (ok.tail i (by omega) (by rw [← hs]; exact hlt) k h'))
     omega
    ·omega
   subst hik
   have hdrop : ops.toList.drop i = o :: ops.toList.drop (i + 1) := by
    rw [List.drop_eq_getElem_cons (by simpa [hs] using hlt)]
    congr 1
    have := (Array.getElem?_eq_some_iff.1 ho).2
    simpa using this
   rw [hdrop] at hop
   refine Zth hL hnt ho hop hrel fun T' a' w' hk' h' => ih _ a' w' hs' hc' (.inr ⟨i + 1, T', by omega, by rw [← hs]; exact hlt, fun j => ?_, hk', h'⟩)
   rw [Zhq hlt, hX]
   omega
  rcases h with h1 | h2
  ·by_cases him : i < m
   ·exact ZwN hL hnt ok F h1 him hnd ho hdir next1
   ·refine round2 (ZtG ok F h1 (fun j hj => ?_) hK)
    exact Zkx ok h1.cl i o ho hdir j (ok.tail i (by omega) (by rw [← hs]; exact hlt) j (by omega))
  ·exact round2 h2
def Zzi (P : Program) [Gl P] (L : Tab) (nt : Nat) (Dr : Zsx) : Prop :=
 ∀ (df : List Deferred) (w0 : World) (M0 : Nat → Prop) (S0 : ZaA) (ρ0 : Nat → Nat) (ops : Array Oper) (S : AS) (a : Act) (w : World) (K : AS → Prop) (Q : Exit → Act → World → Prop), Dr P L nt ops S K → Zcv P nt df w0 M0 S0 ρ0 S a w →
  (∀ S' a' w', K S' → Zcv P nt df w0 M0 S0 ρ0 S' a' w' → Q .normal a' w') → wpAny P .any ops Q ops.size (Array.replicate ops.size false) a w
omit hnt in
theorem Zcv.drawn {S : AS} {a : Act} {w : World} (h : Zcv P nt df w0 M0 S0 ρ0 S a w) : Zcv P nt df w0 M0 S0 ρ0 S a { w with drawn := w.drawn + 1 } := by
 obtain ⟨h2, h3, St, ρ, h4, h5⟩ := h
 exact ⟨h2, h3, St, ρ, h4.grow rfl rfl rfl (Nat.le_refl _) (fun _ _ => rfl) (fun _ _ hs => hs) (fun _ _ hs => .inl hs), h5⟩
include hL in
theorem Zyq (hnt : nt ≤ EXT) : Zzi P L nt (@Zzn) := by
 intro df w0 M0 S0 ρ0 ops S a w K Q hk h hQ
 obtain ⟨m, tch, hdo, hf⟩ := Zyn hk
 have ok := ZEc hdo
 obtain ⟨R, accs, F, hK⟩ := Zzr (P := P) (L := L) (nt := nt) ok hf
 refine ZAv hL hnt ok F hK hQ ops.size _ a _ (by simp) (by simp [List.count_replicate]) (.inl ⟨fun i hi => ?_, fun j o hj => ?_, _, Zip.start _ _ _ (fun i hi => ?_), ?_⟩)
 ·exfalso; unfold Zdi at hi; simp [Array.getD, Array.getElem_replicate] at hi
 ·exfalso; unfold Zdi at hj; simp [Array.getD, Array.getElem_replicate] at hj
 ·unfold Zdi at hi; simp [Array.getD, Array.getElem_replicate] at hi
 ·have h1 := h.less (Zv7 S (Zhe (ops.toList.take m)))
  obtain ⟨h2, h3, St, ρ, h4, h5⟩ := h1
  replace h4 : ZQ P w0 M0 S0 (S.drop (Zhe (ops.toList.take m))) a.tmps w St ρ := by
   obtain ⟨_, _, St', ρ', h6, _⟩ := h
   exact h4.turn (Zuo _ h6.nm) (fun n m hm => by obtain ⟨rfl, _⟩ := ZfY hm; exact ⟨rfl, rfl⟩)
  exact ⟨h2, h3, St, ρ, h4, h5⟩
include hL in
end

section
variable {P : Program} [Gl P] {L : Tab} {S : AS} {K K' : D → Prop} (hK : ∀ d, K d → K' d)
include hK
theorem ZsI {t : Nat} {es : List E} {off : Nat} (h : Zq0 L t es off K) : Zq0 L t es off K' := by unfold Zq0 at h ⊢; grind
theorem Zuv {c : Bool} {A : Prop} {d : D} {o : Option E} {f : E → D} : (if c = true then A ∧ K d else (match o with | some e => K (f e) | none => False)) → if c = true then A ∧ K' d else (match o with | some e => K' (f e) | none => False) := by
 intro h
 cases c with
 | true => simp only [if_true] at h ⊢; exact ⟨h.1, hK _ h.2⟩
 | false => simp only [Bool.false_eq_true, if_false] at h ⊢; cases o with | some e => exact hK _ h | none => exact h
theorem Zyu {c : Bool} {A : Prop} {d : D} {o : Option Cell} {f : Cell → D} : (if c = true then A ∧ K d else (match o with | some e => K (f e) | none => False)) → if c = true then A ∧ K' d else (match o with | some e => K' (f e) | none => False) := by
 intro h
 cases c with
 | true => simp only [if_true] at h ⊢; exact ⟨h.1, hK _ h.2⟩
 | false => simp only [Bool.false_eq_true, if_false] at h ⊢; cases o with | some e => exact hK _ h | none => exact h
theorem ZwA {t : Nat} {d : D} (h : ZqZ L S t d K) : ZqZ L S t d K' := by
 unfold ZqZ at h ⊢
 obtain ⟨h1, h⟩ := h
 refine ⟨h1, ?_⟩
 split at h
 ·split at h
  ·exact ⟨h.1, Zyu hK (f := fun c => Zle c.1 c.2) h.2⟩
  ·exact h
 ·split at h
  ·refine ⟨h.1, h.2.1, h.2.2.1, ?_⟩
   replace h := h.2.2.2
   split at h
   ·exact Zuv hK h
   ·exact h
  ·exact h
 ·exact Zuv hK h
 ·exact h
theorem ZrA {t f : Nat} {d : D} (h : Zjn L t d f K) : Zjn L t d f K' := by unfold Zjn at h ⊢; grind
theorem Zwy {t f : Nat} {d : D} (h : Zqe L t d f K) : Zqe L t d f K' := by have := @ZsI L K K' hK; unfold Zqe at h ⊢; grind
theorem ZrF {t : Nat} {d i : D} (h : Zjb L t d i K) : Zjb L t d i K' := by
 unfold Zjb at h ⊢
 split at h
 ·exact h
 ·split at h
  ·split at h
   ·exact ⟨h.1, h.2.1, h.2.2.1, hK _ h.2.2.2⟩
   ·split at h
    ·refine ⟨h.1, h.2.1, ?_⟩
     replace h := h.2.2
     split at h
     ·exact ⟨h.1, hK _ h.2⟩
     ·exact h
    ·exact h
  ·refine ⟨h.1, h.2.1, h.2.2.1, ?_⟩
   replace h := h.2.2.2
   split at h <;> first | exact hK _ h | exact h
  ·exact h
theorem ZvA {t : Nat} {d i : D} (h : Zql L t d i K) : Zql L t d i K' := by
 unfold Zql at h ⊢
 split at h
 ·exact h
 ·split at h
  ·refine ⟨h.1, ?_⟩
   replace h := h.2
   split at h
   ·exact hK _ h
   ·exact h
  ·exact ⟨h.1, h.2.1, h.2.2.1, ZsI hK h.2.2.2⟩
  ·exact h
theorem Zwc {t : Nat} {d : D} {lo hi mx : Option D} (h : Zpl L t d lo hi mx K) : Zpl L t d lo hi mx K' := by
 unfold Zpl at h ⊢
 split at h
 ·exact h
 ·split at h
  ·split at h
   ·exact ⟨h.1, h.2.1, h.2.2.1, hK _ h.2.2.2⟩
   ·exact h
  ·split at h
   ·exact ⟨h.1, h.2.1, h.2.2.1, h.2.2.2.1, h.2.2.2.2.1, hK _ h.2.2.2.2.2⟩
   ·exact h
  ·split at h
   ·exact ⟨h.1, h.2.1, h.2.2.1, h.2.2.2.1, hK _ h.2.2.2.2⟩
   ·exact h
  ·split at h
   ·exact ⟨h.1, h.2.1, h.2.2.1, hK _ h.2.2.2⟩
   ·exact h
  ·exact h
theorem ZtZ {s t : Nat} {d : D} (h : Zl6 L s t d K) : Zl6 L s t d K' := by unfold Zl6 at h ⊢; grind
theorem ZyY {t : Nat} {d : D} (h : Zvi L S t d K) : Zvi L S t d K' := by unfold Zvi at h ⊢; grind
theorem ZsA {mx : Bool} {d e : D} (h : ZsP mx d e K) : ZsP mx d e K' := by unfold ZsP at h ⊢; grind
theorem Zyj {op : BinOp} {t : Nat} {d e : D} (h : Zyp L op t d e K) : Zyp L op t d e K' := by
 unfold Zyp at h ⊢
 split at h
 ·split at h
  ·exact ⟨h.1, hK _ h.2⟩
  ·split at h <;> first | exact hK _ h | exact h
 ·split at h <;> first | exact ⟨fun e => hK _ (h.1 e), hK _ h.2⟩ | exact h
 ·split at h <;> first | exact hK _ h | exact h
 ·split at h <;> first | exact hK _ h | exact h
 ·exact h
theorem ZwQ {op : BinOp} {t : Nat} {x y : Operand} (h : Zr8 L S op t x y K) : Zr8 L S op t x y K' := by have := @Zyj L K K' hK; unfold Zr8 at h ⊢; grind
theorem ZAm {op : UnOp} {d : D} (h : unK op d K) : unK op d K' := by unfold unK at h ⊢; grind
theorem Zyt {d : D} (h : ZzM d K) : ZzM d K' := by unfold ZzM at h ⊢; grind
theorem Zu9 {t : Nat} {d k : D} {ok : Bool} (h : ZjY L S t d k ok K) : ZjY L S t d k ok K' := by
 unfold ZjY at h ⊢
 split at h
 ·split at h
  ·obtain ⟨h1, h2, h3, h4, a, b, c, h5, h6, h7, h8, h9⟩ := h
   exact ⟨h1, h2, h3, h4, a, b, c, h5, h6, h7, h8, hK _ h9⟩
  ·exact h
 ·exact h
end
theorem Zk4 {S : AS} {place : Nat → Option (Nat × Nat)} {K K' : List E → Prop} (hK : ∀ es, K es → K' es) : ∀ {parts : List (Nat × Operand)} {cells : List E}, Zhp S place parts cells K → Zhp S place parts cells K'
 | [], _, h => hK _ h
 | (i, x) :: rest, cells, h => by
  simp only [Zhp] at h ⊢
  split at h
  case h_2 => exact h.elim
  exact ⟨h.1, h.2.1, Zk4 hK h.2.2⟩
theorem ZuV {b : Bool} {A A' B B' : Prop} (h1 : A → A') (h2 : B → B') (h : ZgU b A B) : ZgU b A' B' := by cases b; exact h2 h; exact h1 h
theorem Zzf {L : Tab} {S : AS} {op : Op} {K K' : D → Prop} (hK : ∀ d, K d → K' d) (h : opV L S op K) : opV L S op K' := by
 cases op with
 | move x => exact hK _ h
 | assign x => exact hK _ h
 | pick c x y => simp only [opV] at h ⊢; split at h; exact ZuV (hK _) (hK _) h; exact h
 | load t p => exact ZwA hK h
 | fieldAddr t p f => exact ZrA hK h
 | field t p f => exact Zwy hK h
 | indexAddr t x i => exact ZrF hK h
 | index t x i => exact ZvA hK h
 | slice t x lo hi mx => exact Zwc hK h
 | binOp op t x y u => exact ZwQ hK h
 | unOp op t x => exact ZAm hK h
 | convert s t x => exact ZtZ hK h
 | nilCheck x => exact Zyt hK h
 | extract x i => simp only [opV] at h ⊢; split at h; split at h; exact hK _ h; exact h; exact h
 | build t parts =>
  simp only [opV] at h ⊢
  split at h
  ·exact ⟨h.1, Zk4 (fun _ => hK _) h.2⟩
  ·exact ⟨h.1, Zk4 (fun _ => hK _) h.2⟩
  ·exact h
 | makeFunc fn first captured => simp only [opV] at h ⊢; split at h <;> split at h <;> first | exact hK _ h | exact h
 | lookup t m k ok => exact Zu9 hK h
 | call c =>
  simp only [opV] at h ⊢
  split at h
  ·exact ZyY hK h
  ·exact ZsA hK h
  ·exact ZsA hK h
  ·exact h
 | _ => exact h

def ZrL : Op → Bool
 | .box _ _ | .alloc _ | .store _ _ _ | .makeMap _ _ | .mapUpdate _ _ _ _ | .insert _ _ _ _ => false
 | .call c => (match c.callee with | .value _ | .builtin .append | .builtin .clear => false | _ => true)
 | _ => true
def ZtF (ops : Array Oper) (es : List Nat) : List Nat := es.filterMap (Zb8 ops)
def ZtL (ops : Array Oper) (es : List Nat) (i : Nat) : List Nat := es.filterMap fun j => if (Zct ops i).contains j then none else Zb8 ops j
def ZpX : List Nat → Bool
 | [] => true
 | i :: l => l.all (Nat.blt i ·) && ZpX l
def ZrN (ops : Array Oper) (es : List Nat) : Bool :=
 es.all (Nat.blt · ops.size) && ZpX es &&
 (List.range ops.size).all fun i =>
  match ops[i]? with
  | none => false
  | some o =>
   (Zcs o).all (· < i) &&
   (match o.guard with | some (j, _) => (Zct ops i).contains j && decide (j < i) | none => true) &&
   (if es.contains i then
    ZrL o.op && o.guard.isNone && (Zct ops i).all (es.contains ·) && o.dst.isSome &&
    (es.all fun j => j == i || !(Zb8 ops j == o.dst)) && (es.all fun j => match Zb8 ops j with | some t => !(ZeZ o).contains t || (Zct ops i).contains j | none => true)
    else
    ((List.range i).all fun j => es.contains j || (Zct ops i).contains j) &&
    es.all fun j => match Zb8 ops j with
     | some t => !(o.dst == some t) && (!(ZeZ o).contains t || (Zct ops i).contains j) && (match o.guard with | some (g, _) => !(Zb8 ops g == some t) || (Zct ops i).contains j | none => true)
     | none => true)
def AS.maskK (S : AS) (ts bs : List Nat) : AS := ⟨S.tmps.filter fun p => !ts.contains p.1, S.boxes.filter fun p => bs.contains p.1⟩
def ZvL (P : Program) [Gl P] (L : Tab) (nt : Nat) (ops : Array Oper) (all bs : List Nat) : List Nat → List (List Nat) → AS → (AS → Prop) → Prop
 | [], _, acc, K => K acc
 | _ :: _, [], _, _ => False
 | i :: rest, h :: hs, acc, K =>
  match ops[i]? with
  | none => False
  | some o => Zgn nt o.dst = true ∧ ∃ d us, (ZcQ P L o (acc.maskK h bs) d us) ∧ (ZpP all d && us.isEmpty) = true ∧ ZeL (acc.add o.dst d us) fun acc => ZvL P L nt ops all bs rest hs acc K
def ZkA (ops : Array Oper) (es : List Nat) : List Nat := (List.range ops.size).filter fun i => !es.contains i
def Zv3 (S : AS) : List Nat → List D
 | [] => []
 | x :: xs => S.get x :: Zv3 S xs
def Zws (S : AS) : List Nat → List (Option (List Cell))
 | [] => []
 | x :: xs => S.box x :: Zws S xs
def ZyG (all : List Nat) : List (Nat × D) → Bool
 | [] => true
 | (_, d) :: l => ZpP all d && ZyG all l
def ZtP (all : List Nat) : List Cell → Bool
 | [] => true
 | (some (t, _), _) :: l => !all.contains t && ZtP all l
 | _ :: l => ZtP all l
def ZyH (all : List Nat) : List (Nat × List Cell) → Bool
 | [] => true
 | (_, cs) :: l => ZtP all cs && ZyH all l
def ck (xs bs all : List Nat) (U : AS) (S : AS) : Prop := Zv3 S xs = Zv3 U xs ∧ Zws S bs = Zws U bs ∧ (ZyG all S.tmps && ZyH all S.boxes) = true
def Zpb (P : Program) [Gl P] (L : Tab) (nt : Nat) (ops : Array Oper) (C : AS → Prop) : List Oper → AS → (AS → Prop) → Prop
 | [], S, K => K S
 | o :: rest, S, K =>
  match o.guard with
  | none => Zgg P L nt S o fun S' => ZeL S' fun S' => C S' ∧ Zpb P L nt ops C rest S' K
  | some (j, want) =>
   match (ops[j]?).bind (·.dst) with
   | some g =>
    match S.get g with
    | .c tk (.v (.bool b)) =>
     Zgn nt o.dst = true ∧
     ZiP b want (Zgg P L nt (S.put g (.c tk (.v (.bool want)))) o fun S' => ZeL S' fun S' => C S' ∧ Zpb P L nt ops C rest S' K)
      (ZeL ((S.put g (.c tk (.v (.bool (!want))))).putO o.dst (.tup [])) fun S' => C S' ∧ Zpb P L nt ops C rest S' K)
    | .tup [] => Zgn nt o.dst = true ∧ ZeL (S.putO o.dst (.tup [])) fun S' => C S' ∧ Zpb P L nt ops C rest S' K
    | _ => False
   | none => False
def ZAb (P : Program) [Gl P] (L : Tab) (nt : Nat) (ops : Array Oper) (S : AS) (K : AS → Prop) : Prop :=
 ∃ es hs bs xs all tl, (ZrN ops es && hs == es.map (ZtL ops es) && all == ZtF ops es && tl == ZkA ops es && (es.all fun i => match ops[i]? with | some o => (ZeZ o).all (xs.contains ·) | none => false) && all.all (xs.contains ·)) = true ∧
  ZeL (S.drop all) fun S => ZvL P L nt ops all bs es hs S fun U => ck xs bs all U U ∧ Zpb P L nt ops (ck xs bs all U) (tl.filterMap (ops[·]?)) U K
def Zq7 (P : Program) [Gl P] (L : Tab) (nt : Nat) (ops : Array Oper) (S : AS) (K : AS → Prop) : Prop := Zzn P L nt ops S K ∨ ZAb P L nt ops S K
structure ME (H : Nat → Prop) (S T : AS) : Prop where
 hid : ∀ i, H i → T.get i = .bot
 get : ∀ i, ¬ H i → T.get i = S.get i
 box : ∀ n, T.box n = S.box n
section
variable {P : Program} [Gl P] {L : Tab} {nt : Nat} {H : Nat → Prop} {S T : AS}
theorem ME.kill (h : ME H S T) (n : Nat) : ME H (S.kill n) (T.kill n) :=
 ⟨fun i hi => by rw [ZkO, h.hid i hi]; rfl, fun i hi => by rw [ZkO, ZkO, h.get i hi], fun m => by rw [ZiB, ZiB, h.box]⟩
theorem ME.strip (h : ME H S T) (n : Nat) : ME H (S.strip n) (T.strip n) :=
 ⟨fun i hi => by rw [Zkb, h.hid i hi]; rfl, fun i hi => by rw [Zkb, Zkb, h.get i hi], fun m => by rw [ZlO, ZlO, h.box]⟩
theorem ME.setBox (h : ME H S T) (n : Nat) (cs : List Cell) : ME H (S.setBox n cs) (T.setBox n cs) :=
 ⟨fun i hi => by rw [ZmD]; exact h.hid i hi, fun i hi => by rw [ZmD, ZmD]; exact h.get i hi, fun m => by rw [ZbN, ZbN, h.box]⟩
theorem ME.put (h : ME H S T) {n : Nat} (hn : ¬ H n) (d : D) : ME H (S.put n d) (T.put n d) :=
 ⟨fun i hi => by rw [Ze1, if_neg (fun e => hn (by rw [← e]; exact hi))]; exact h.hid i hi, fun i hi => by rw [Ze1, Ze1, h.get i hi], fun m => by rw [ZxA, ZxA]; exact h.box m⟩
theorem ME.putO (h : ME H S T) {dst : Option Nat} (hn : ∀ d, dst = some d → ¬ H d) (d : D) : ME H (S.putO dst d) (T.putO dst d) := by
 cases dst with
 | none => exact h
 | some n => exact h.put (hn n rfl) d
theorem ME.stripT (h : ME H S T) (tk : Option (Nat × Nat)) : ME H (S.stripT tk) (T.stripT tk) := by
 cases tk with
 | none => exact h
 | some q => exact h.strip q.1
theorem ME.stripAll : ∀ (ts : List Nat) {S T : AS}, ME H S T → ME H (S.stripAll ts) (T.stripAll ts)
 | [], _, _, h => h
 | t :: ts, _, _, h => ME.stripAll ts (h.strip t)
theorem ZqE (S : AS) (l : List Nat) (i : Nat) : (S.killN l).get i = (S.get i).ren (Zj1 l) := by
 simp only [AS.get, AS.killN, Zf9, ZfA]; cases Z2 S.tmps i <;> rfl
theorem Zur (S : AS) (l : List Nat) (n : Nat) : (S.killN l).box n = if l.contains n then none else (S.box n).map (Cell.rens (Zj1 l)) := by
 simp only [AS.box, AS.killN, Zf9, ZfA, Zjp]; split <;> rfl
theorem ME.killN (h : ME H S T) (l : List Nat) : ME H (S.killN l) (T.killN l) :=
 ⟨fun i hi => by rw [ZqE, h.hid i hi]; rfl, fun i hi => by rw [ZqE, ZqE, h.get i hi], fun m => by rw [Zur, Zur, h.box]⟩
theorem ZqN (bx : ZbV) (f : Nat → Option Nat) : ∀ (l : List (Nat × Nat)) (b b' : ZbV), (∀ m, Z2 b m = Z2 b' m) → ∀ m, Z2 (Zmi bx f l b) m = Z2 (Zmi bx f l b') m
 | [], b, b', h, m => h m
 | (c, n) :: l, b, b', h, m => by
  simp only [Zmi]
  refine ZqN bx f l _ _ (fun k => ?_) m
  split
  ·rw [ZjG, ZjG, h]
  ·rw [Zn7, Zn7, h]
theorem ME.back (h : ME H S T) (bx : ZbV) (f : Nat → Option Nat) (l : List (Nat × Nat)) : ME H { S with boxes := Zmi bx f l S.boxes } { T with boxes := Zmi bx f l T.boxes } :=
 ⟨h.hid, h.get, fun n => ZqN bx f l _ _ h.box n⟩
theorem ME.ev (h : ME H S T) {x : Operand} (hx : ∀ t, x = .tmp t → ¬ H t) : T.ev x = S.ev x := by
 cases x with
 | tmp t => exact h.get t (hx t rfl)
 | _ => rfl
theorem Zrb (hb : ∀ n, T.box n = S.box n) (f : Nat → Option Nat) : ∀ l, ZhZ T f l = ZhZ S f l
 | [] => rfl
 | (n, c) :: l => by simp only [ZhZ, hb, Zrb hb f l]
theorem Zq1 (h : ME H S T) {dst : Option Nat} {t : Nat} {m k x : D} {K : AS → Prop} (hk : Zgd L S dst t m k x K) : Zgd L T dst t m k x fun T' => ∃ S', K S' ∧ ME H S' T' :=
 Zmv (fun n cs hn => (h.box n).trans hn) (fun n cs _ hK => ⟨_, hK, h.setBox n cs⟩) hk
theorem Zsh {o : Oper} {K : AS → Prop} (h : ME H S T) (hops : ∀ t ∈ ZeZ o, ¬ H t) (hdst : ∀ d, o.dst = some d → ¬ H d) (hk : Zgg P L nt S o K) : Zgg P L nt T o fun T' => ∃ S', K S' ∧ ME H S' T' := by
 have hev : ∀ x ∈ o.op.operands, S.ev x = T.ev x := fun x hx => (h.ev fun t ht => hops t (by
  unfold ZeZ; rw [List.mem_filterMap]; exact ⟨x, by simpa using hx, by rw [ht]⟩)).symm
 have hb : ∀ n cs, S.box n = some cs → T.box n = some cs := fun n cs hn => (h.box n).trans hn
 have hv : (Zgn nt o.dst = true ∧ opV L S o.op fun d => K (S.putO o.dst d)) → (Zgn nt o.dst = true ∧ opV L T o.op fun d => ∃ S', K S' ∧ ME H S' (T.putO o.dst d)) := fun ⟨h1, h2⟩ => by
  refine ⟨h1, ZtH hb hev ?_⟩
  have mono : ∀ {K' : D → Prop}, (∀ d, K (S.putO o.dst d) → K' d) → opV L S o.op K' := fun hK => Zzf hK h2
  exact mono fun d hd => ⟨_, hd, h.putO hdst d⟩
 obtain ⟨dst, op, ty, pos, after, guard⟩ := o
 simp only at hev hdst hv
 cases op with
 | box t x =>
  simp only [Zgg] at hk ⊢
  rw [← hev x (by simp [Op.operands])]
  split at hk
  case h_2 => exact hk.elim
  exact ⟨hk.1, _, hk.2, ((h.kill _).setBox _ _).put (hdst _ rfl) _⟩
 | alloc t =>
  simp only [Zgg] at hk ⊢
  split at hk
  case h_2 => exact hk.elim
  exact ⟨hk.1, _, hk.2, ((h.kill _).setBox _ _).put (hdst _ rfl) _⟩
 | buildSlice t len parts =>
  have hp : ∀ p ∈ parts.toList, S.ev p.2 = T.ev p.2 := fun p hp => hev p.2 (by simp only [Op.operands, List.mem_toArray, List.mem_map]; exact ⟨p, hp, rfl⟩)
  simp only [Zgg] at hk ⊢
  split at hk
  case h_2 => exact hk.elim
  split at hk
  case h_2 => exact hk.elim
  obtain ⟨h1, h2, h3, h4, h5⟩ := hk
  refine ⟨h1, h2, h3, h4, Zk4 (fun es ⟨h6, rows', h7, h8⟩ => ?_) (ZjH _ _ _ _ hp h5)⟩
  exact ⟨h6, rows', h7, _, h8, (h.strip _).put (hdst _ rfl) _⟩
 | makeSlice t x y =>
  simp only [Zgg] at hk ⊢
  rw [← hev x (by simp [Op.operands]), ← hev y (by simp [Op.operands])]
  split at hk
  case h_2 => exact hk.elim
  obtain ⟨h1, h2, h3, h4, h5, h6, h7, h8⟩ := hk
  exact ⟨h1, h2, h3, h4, h5, h6, h7, _, h8, (h.strip _).put (hdst _ rfl) _⟩
 | store t p x =>
  simp only [Zgg] at hk ⊢
  rw [← hev p (by simp [Op.operands]), ← hev x (by simp [Op.operands])]
  split at hk
  ·split at hk
   case h_2 => exact hk.elim
   rw [h.box]
   split at hk
   case h_2 => exact hk.elim
   obtain ⟨h1, h2, h3, h4, h5, h6⟩ := hk
   exact ⟨h1, h2, h3, h4, h5, _, h6, h.setBox _ _⟩
  ·unfold ZsE at hk ⊢
   rw [h.box]
   split at hk
   case h_2 => exact hk.elim
   split at hk
   case h_2 => exact hk.elim
   obtain ⟨a1, a2, a3, a4, a5, a6, a7, a8, rows', a9, a10⟩ := hk
   exact ⟨a1, a2, a3, a4, a5, a6, a7, a8, rows', a9, _, a10, h.setBox _ _⟩
  ·exact hk.elim
 | makeMap t r =>
  simp only [Zgg] at hk ⊢
  split at hk
  case h_2 => exact hk.elim
  obtain ⟨h1, h2, h3, h4⟩ := hk
  refine ⟨h1, h2, ?_, _, h4, ((h.kill _).setBox _ _).put (hdst _ rfl) _⟩
  cases r with
  | none => trivial
  | some x => have := hev x (by simp [Op.operands]); simp only at h3 ⊢; rw [← this]; exact h3
 | mapUpdate t m k x =>
  simp only [Zgg] at hk ⊢
  rw [← hev m (by simp [Op.operands]), ← hev k (by simp [Op.operands]), ← hev x (by simp [Op.operands])]
  exact Zq1 h hk
 | insert t m k x =>
  simp only [Zgg] at hk ⊢
  rw [← hev m (by simp [Op.operands]), ← hev k (by simp [Op.operands]), ← hev x (by simp [Op.operands])]
  exact Zq1 h hk
 | range t x =>
  simp only [Zgg] at hk ⊢
  rw [← hev x (by simp [Op.operands])]
  unfold ZuZ at hk ⊢
  split at hk
  case h_2 => exact hk.elim
  obtain ⟨a1, a2, a3⟩ := hk
  exact ⟨a1, a2, _, a3, ((h.kill _).setBox _ _).put (hdst _ rfl) _⟩
 | next x str =>
  simp only [Zgg] at hk ⊢
  rw [← hev x (by simp [Op.operands])]
  obtain ⟨a0, hk⟩ := hk
  refine ⟨a0, ?_⟩
  unfold Zyb at hk ⊢
  split at hk
  case h_2 => exact hk.elim
  rw [h.box]
  split at hk
  case h_2 => exact hk.elim
  obtain ⟨a1, a2, a3, a4⟩ := hk
  refine ⟨a1, a2, a3, ZpT (fun hb => ?_) (fun hb => ?_)⟩
  ·rw [hb] at a4; exact ⟨_, a4, (h.setBox _ _).putO hdst _⟩
  ·rw [hb] at a4; exact ⟨_, a4, h.putO hdst _⟩
 | slice t x lo hi mx =>
  have hl : ∀ (y : Option Operand), (∀ z ∈ y, z ∈ (Op.slice t x lo hi mx).operands) → y.map S.ev = y.map T.ev := fun y hy => by
   cases y with
   | none => rfl
   | some z => simp only [Option.map_some]; rw [hev z (hy z rfl)]
  simp only [Zgg] at hk ⊢
  rw [← hev x (by simp [Op.operands])]
  split at hk
  ·unfold Zsk at hk ⊢
   rw [← hl lo (fun z hz => by cases hz; simp [Op.operands]), ← hl hi (fun z hz => by cases hz; simp [Op.operands]), ← hl mx (fun z hz => by cases hz; simp [Op.operands]), h.box]
   split at hk
   case h_2 => exact hk.elim
   obtain ⟨a1, a2, a3, a4, a5, a6, rows', l', a7, a8, a9⟩ := hk
   exact ⟨a1, a2, a3, a4, a5, a6, rows', l', a7, a8, _, a9, (h.setBox _ _).putO hdst _⟩
  ·exact hv hk
 | call c =>
  have hargs : ∀ x ∈ c.args.toList, S.ev x = T.ev x := fun x hx => hev x (by
   simp only [Op.operands, Call.operands]
   exact Array.mem_append.2 (.inr (by simpa using hx)))
  simp only [Zgg] at hk ⊢
  split at hk
  ·rename_i s x t u h1 h2 h3
   obtain ⟨rfl, hk⟩ := hk
   refine ⟨rfl, ?_⟩
   rw [← hargs s (by rw [h2]; simp), ← hargs x (by rw [h2]; simp)]
   unfold Ztr at hk ⊢
   split at hk
   ·rename_i tk n l hse
    unfold Zqd at hk ⊢
    rw [h.box]
    split at hk
    case h_2 => exact hk.elim
    obtain ⟨a1, a2, a3, a4, a5, a6, a7, a8, a9, new', rows', l', b1, b2, b3, b4⟩ := hk
    exact ⟨a1, a2, a3, a4, a5, a6, a7, a8, a9, new', rows', l', b1, b2, b3, _, b4, ((h.kill _).setBox _ _).put (hdst _ rfl) _⟩
   ·unfold ZrV at hk ⊢
    split at hk
    case h_2 => exact hk.elim
    rename_i d e tk es' hd2 he2 hs2
    split at hk
    case h_2 => exact hk.elim
    obtain ⟨a1, a2, a3, a4, a5, a6, a7, new', a8, a9⟩ := hk
    exact ⟨a1, a2, a3, a4, a5, a6, a7, new', a8, _, a9, ((h.stripT _).strip _).put (hdst _ rfl) _⟩
  ·rename_i x t h1 h2 h3
   rw [← hargs x (by rw [h2]; simp)]
   split at hk
   case h_2 => exact hk.elim
   rw [h.box]
   split at hk
   case h_2 => exact hk.elim
   obtain ⟨a1, a2, a3⟩ := hk
   exact ⟨a1, a2, _, a3, (h.setBox _ _).putO hdst _⟩
  ·rename_i f hf
   have hfe : S.ev f = T.ev f := hev f (by simp only [Op.operands, Call.operands, hf]; exact Array.mem_append.2 (.inl (by simp)))
   unfold Zqa at hk ⊢
   rw [← hfe]
   split at hk
   case h_2 => exact hk.elim
   obtain ⟨keep, nm, nw, hk⟩ := hk
   refine ⟨keep, nm, nw, ?_⟩
   rw [ZfW] at hk ⊢
   rw [← List.map_congr_left hargs]
   simp only [Zrb h.box]
   split at hk
   case h_2 => exact hk.elim
   obtain ⟨h1, h2⟩ := hk
   refine ⟨h1, ?_⟩
   rw [ZfW, Zjm] at h2 ⊢
   exact Zq.mono h2 fun r b hK => by
    unfold Zue at hK ⊢
    exact ⟨_, hK, ((((ME.stripAll _ h).killN _).back _ _ _).putO hdst _)⟩
  ·exact hv hk
 | _ => exact hv hk
end

end Go.Am
