/- Part 3 of the proof: the abstract machine and its soundness. It holds for every input, without conditions. -/
import Derived.Scope
import Derived.RangeFuncIn
import Derived.IntWalk
import Derived.DataReads
import Derived.Carry
import Derived.ChangeOld
import Derived.Test.YtgbglhbdjambbaaGreatDoorUgA
import Derived.Test.YtgbglhbdjambbaaGreatDoorUgB
set_option linter.unusedVariables false
set_option linter.unusedSimpArgs false
namespace Go.Am
open Go.RowKit
section
variable {P : Program} [Gl P] {L : Tab} (hL : TOk P L) {nt : Nat} (hnt : nt ≤ EXT) {w0 : World} {M0 : Nat → Prop} {S0 : Z1} {ρ0 : Nat → Nat} {df : List Deferred} {ops : Array Oper} {es : List Nat}
structure ZCY (ops : Array Oper) (es : List Nat) : Prop where
 lt : ∀ i ∈ es, i < ops.size
 sorted : Zog es = true
 dir : ∀ i o, ops[i]? = some o → ∀ j ∈ Zbq o, j < i
 guard : ∀ i o j want, ops[i]? = some o → o.guard = some (j, want) → j ∈ Zbr ops i ∧ j < i
 light : ∀ i o, i ∈ es → ops[i]? = some o → ZpU o.op = true ∧ o.guard = none ∧ (∀ j ∈ Zbr ops i, j ∈ es) ∧ (∃ t, o.dst = some t) ∧ (∀ j ∈ es, j ≠ i → Zba ops j ≠ o.dst) ∧ ∀ j ∈ es, ∀ t, Zba ops j = some t → t ∈ Zd0 o → j ∈ Zbr ops i
 tail : ∀ i o, i ∉ es → ops[i]? = some o → (∀ j, j < i → j ∈ es ∨ j ∈ Zbr ops i) ∧ ∀ j ∈ es, ∀ t, Zba ops j = some t → o.dst ≠ some t ∧ (t ∈ Zd0 o → j ∈ Zbr ops i) ∧ ∀ g want, o.guard = some (g, want) → Zba ops g = some t → j ∈ Zbr ops i
theorem ZA3 (h : ZsN ops es = true) : ZCY ops es := by
 unfold ZsN at h
 simp only [Bool.and_eq_true] at h
 obtain ⟨⟨h1, hsort⟩, h2⟩ := h
 have hlt : ∀ i ∈ es, i < ops.size := fun i hi => by have := List.all_eq_true.1 h1 i hi; simpa using this
 have key : ∀ i o, ops[i]? = some o → _ := fun i o ho => by
  have hi : i < ops.size := (Array.getElem?_eq_some_iff.1 ho).1
  have := List.all_eq_true.1 h2 i (List.mem_range.2 hi)
  rw [ho] at this
  exact this
 refine ⟨hlt, hsort, fun i o ho j hj => ?_, fun i o j want ho hg => ?_, fun i o hi ho => ?_, fun i o hi ho => ?_⟩
 ·have := key i o ho
  simp only [Bool.and_eq_true] at this
  have := List.all_eq_true.1 this.1.1 j hj
  simpa using this
 ·have := key i o ho
  simp only [Bool.and_eq_true] at this
  have := this.1.2
  rw [hg] at this
  simp only [Bool.and_eq_true, List.contains_iff_mem, decide_eq_true_eq] at this
  exact this
 ·have := key i o ho
  simp only [Bool.and_eq_true] at this
  have := this.2
  rw [if_pos (by simpa using hi)] at this
  simp only [Bool.and_eq_true, Option.isNone_iff_eq_none, Option.isSome_iff_exists] at this
  obtain ⟨⟨⟨⟨⟨a1, a2⟩, a3⟩, a4⟩, a5⟩, a6⟩ := this
  refine ⟨a1, a2, fun j hj => by have := List.all_eq_true.1 a3 j hj; simpa using this, a4, fun j hj hne he => ?_, fun j hj t hd ht => ?_⟩
  ·have := List.all_eq_true.1 a5 j hj
   simp [hne, he] at this
  ·have := List.all_eq_true.1 a6 j hj
   rw [hd] at this
   simp only [Bool.or_eq_true, Bool.not_eq_true', List.contains_iff_mem] at this
   rcases this with h3 | h3
   ·have : (Zd0 o).contains t = true := by simpa using ht
    rw [this] at h3; cases h3
   ·exact h3
 ·have := key i o ho
  simp only [Bool.and_eq_true] at this
  have := this.2
  rw [if_neg (by simpa using hi)] at this
  simp only [Bool.and_eq_true] at this
  obtain ⟨a1, a2⟩ := this
  refine ⟨fun j hj => ?_, fun j hj t hd => ?_⟩
  ·have := List.all_eq_true.1 a1 j (List.mem_range.2 hj)
   simpa using this
  ·have := List.all_eq_true.1 a2 j hj
   rw [hd] at this
   simp only [Bool.and_eq_true, Bool.not_eq_true', beq_eq_false_iff_ne, ne_eq, Bool.or_eq_true, List.contains_iff_mem] at this
   obtain ⟨⟨b1, b2⟩, b3⟩ := this
   refine ⟨b1, fun ht => ?_, fun g want hg hgt => ?_⟩
   ·rcases b2 with b2 | b2
    ·have : (Zd0 o).contains t = true := by simpa using ht
     rw [this] at b2; cases b2
    ·exact b2
   ·rw [hg] at b3
    simp only [Bool.or_eq_true, Bool.not_eq_true', beq_eq_false_iff_ne, ne_eq, List.contains_iff_mem] at b3
    rcases b3 with b3 | b3
    ·exact absurd hgt b3
    ·exact b3
theorem Zpi (hdir : ∀ i o, ops[i]? = some o → ∀ j ∈ Zbq o, j < i) {X : Nat → Prop} (hcl : ∀ j o, X j → ops[j]? = some o → ∀ k ∈ Zbq o, X k) : ∀ i o, ops[i]? = some o → (∀ k ∈ Zbq o, X k) → ∀ k ∈ Zbr ops i, X k := by
 intro i
 induction i using Nat.strongRecOn with
 | _ i ih =>
  intro o ho hd k hk
  rcases (ZnJ ho (hdir i o ho) k).1 hk with h | ⟨j, hj, hk⟩
  ·exact hd k h
  ·have hji := hdir i o ho j hj
   cases hoj : ops[j]? with
   | none => rw [Zk1 hoj] at hk; simp at hk
   | some oj => exact ih j hji oj hoj (hcl j oj (hd j hj) hoj) k hk
theorem ZA0 (hdir : ∀ i o, ops[i]? = some o → ∀ j ∈ Zbq o, j < i) : ∀ i k, k ∈ Zbr ops i → k < i := by
 intro i
 induction i using Nat.strongRecOn with
 | _ i ih =>
  intro k hk
  cases ho : ops[i]? with
  | none => rw [Zk1 ho] at hk; simp at hk
  | some o =>
   rcases (ZnJ ho (hdir i o ho) k).1 hk with h | ⟨j, hj, hk⟩
   ·exact hdir i o ho k h
   ·have := hdir i o ho j hj; have := ih j this k hk; omega
theorem Zpf (S : AS) (ts bs : List Nat) (i : Nat) : (S.maskK ts bs).get i = if ts.contains i then .bot else S.get i := by
 simp only [AS.get, AS.maskK, ZfA]; split <;> rfl
theorem ZkF {α : Type} (bs : List Nat) : ∀ (l : List (Nat × α)) (i : Nat), ZL (l.filter fun p => bs.contains p.1) i = if bs.contains i then ZL l i else none
 | [], i => by simp [ZL]
 | (j, x) :: l, i => by
  simp only [List.filter_cons]
  by_cases h : bs.contains j = true
  ·simp only [h, if_true, ZL, ZkF bs l i]
   by_cases hij : i = j
   ·subst hij; simp only [if_true, h]
   ·simp only [if_neg hij]
  ·simp only [if_neg h, ZkF bs l i, ZL]
   by_cases hij : i = j
   ·subst hij; simp only [if_neg h]
   ·rw [if_neg hij]
theorem Zr1 (S : AS) (ts bs : List Nat) (n : Nat) : (S.maskK ts bs).box n = if bs.contains n then S.box n else none := by
 simp only [AS.box, AS.maskK, ZkF]
theorem ZlF (ok : ZCY ops es) {all bs : List Nat} : ∀ (l : List Nat) (hs : List (List Nat)) (acc : AS) (K : AS → Prop), hs = l.map (Zsb ops es) → (∀ i ∈ l, i ∈ es) → Zog l = true → Zwc P L nt ops all bs l hs acc K →
  ∃ U, K U ∧ (∀ t, (∀ i ∈ l, Zba ops i ≠ some t) → U.get t = acc.get t) ∧ (∀ n, U.box n = acc.box n) ∧
   ∀ i ∈ l, ∀ o, ops[i]? = some o → Ze0 nt o.dst = true ∧ ∃ u, o.dst = some u ∧ ZbL P L o (U.maskK (Zsb ops es i) bs) (U.get u) [] ∧ Zn6 all (U.get u) = true
 | [], hs, acc, K, _, _, _, h => ⟨acc, h, fun _ _ => rfl, fun _ => rfl, fun i hi => by simp at hi⟩
 | i :: l, [], acc, K, _, _, _, h => h.elim
 | i :: l, h0 :: hs, acc, K, hh, hes, hso, h => by
  simp only [List.map_cons, List.cons.injEq] at hh
  obtain ⟨rfl, hh⟩ := hh
  simp only [Zog, Bool.and_eq_true] at hso
  have hie := hes i (by simp)
  simp only [Zwc, ZeH] at h
  split at h
  ·exact h.elim
  rename_i o ho
  obtain ⟨h1, d, us, h2, h3, h4⟩ := h
  simp only [Bool.and_eq_true, List.isEmpty_iff] at h3
  obtain ⟨h3, rfl⟩ := h3
  obtain ⟨U, k1, k2, k3, k4⟩ := ZlF ok l hs _ K hh (fun j hj => hes j (by simp [hj])) hso.2 h4
  obtain ⟨l1, l2, l3, ⟨u, hu⟩, l5, l6⟩ := ok.light i o hie ho
  have hdi : Zba ops i = some u := by simp [Zba, ho, hu]
  have hlt : ∀ j ∈ l, i < j := fun j hj => by have := List.all_eq_true.1 hso.1 j hj; simpa using this
  have hne : ∀ j ∈ l, Zba ops j ≠ some u := fun j hj => by
   have := l5 j (hes j (by simp [hj])) (by have := hlt j hj; omega)
   rw [hu] at this; exact this
  have hUu : U.get u = d := by
   rw [k2 u hne, AS.add, AS.setBoxes, hu]
   simp only [AS.putO, ZdR, if_true]
  refine ⟨U, k1, fun t ht => ?_, fun n => ?_, fun j hj oj hoj => ?_⟩
  ·rw [k2 t (fun j hj => ht j (by simp [hj])), AS.add, AS.setBoxes, hu]
   simp only [AS.putO, ZdR]
   rw [if_neg (fun e => ht i (by simp) (by rw [hdi, e]))]
  ·rw [k3, AS.add, AS.setBoxes, Zj7]
  ·rcases List.mem_cons.1 hj with rfl | hj
   ·rw [ho] at hoj; injection hoj with hoj; subst hoj
    refine ⟨h1, u, hu, ?_, by rw [hUu]; exact h3⟩
    rw [hUu]
    refine Zjz (fun n cs hn => ?_) (fun x hx => ?_) h2
    ·rw [Zr1] at hn ⊢
     split at hn
     ·rename_i hc; rw [if_pos hc, k3, AS.add, AS.setBoxes, Zj7]; exact hn
     ·cases hn
    ·cases x with
     | tmp t =>
      have htm : t ∈ Zd0 o := by
       unfold Zd0
       rw [List.mem_filterMap]
       exact ⟨.tmp t, by simpa using hx, rfl⟩
      simp only [AS.ev]
      rw [Zpf, Zpf]
      split
      ·rfl
      ·have hto : ∀ q ∈ es, Zba ops q = some t → q < j := fun q hq hqt => ZA0 ok.dir j q (l6 q hq t hqt htm)
       rw [k2 t (fun q hq he => by have := hto q (hes q (by simp [hq])) he; have := hlt q hq; omega), AS.add, AS.setBoxes, hu]
       simp only [AS.putO, ZdR]
       rw [if_neg]
       rintro rfl
       have := hto j hie hdi
       omega
     | _ => rfl
   ·exact k4 j hj oj hoj
theorem ZsV {S U : AS} : ∀ {xs : List Nat}, ZuA S xs = ZuA U xs → ∀ x ∈ xs, S.get x = U.get x
 | [], _, x, hx => by simp at hx
 | y :: xs, h, x, hx => by
  simp only [ZuA, List.cons.injEq] at h
  rcases List.mem_cons.1 hx with rfl | hx
  ·exact h.1
  ·exact ZsV h.2 x hx
theorem Zxs {S U : AS} : ∀ {xs : List Nat}, ZuX S xs = ZuX U xs → ∀ x ∈ xs, S.box x = U.box x
 | [], _, x, hx => by simp at hx
 | y :: xs, h, x, hx => by
  simp only [ZuX, List.cons.injEq] at h
  rcases List.mem_cons.1 hx with rfl | hx
  ·exact h.1
  ·exact Zxs h.2 x hx
theorem Zxn {all : List Nat} : ∀ {l : List (Nat × D)}, Zx9 all l = true → ∀ i d, ZL l i = some d → Zn6 all d = true
 | [], _, i, d, h => by simp [ZL] at h
 | (j, x) :: l, h, i, d, hd => by
  simp only [Zx9, Bool.and_eq_true] at h
  simp only [ZL] at hd
  split at hd
  ·injection hd with hd; subst hd; exact h.1
  ·exact Zxn h.2 i d hd
theorem ZwZ {all : List Nat} : ∀ {l : List (Nat × List Cell)}, Zxy all l = true → ∀ i cs, ZL l i = some cs → ZqU all cs = true
 | [], _, i, d, h => by simp [ZL] at h
 | (j, x) :: l, h, i, d, hd => by
  simp only [Zxy, Bool.and_eq_true] at h
  simp only [ZL] at hd
  split at hd
  ·injection hd with hd; subst hd; exact h.1
  ·exact ZwZ h.2 i d hd
theorem Zra {all : List Nat} : ∀ {l : List Cell}, ZqU all l = true → ∀ (j t k : Nat) (e : E), l[j]? = some (some (t, k), e) → all.contains t = false
 | [], _, j, t, k, e, h => by simp at h
 | (none, x) :: l, h, j, t, k, e, hj => by
  simp only [ZqU] at h
  cases j with
  | zero => simp at hj
  | succ j => exact Zra h j t k e (by simpa using hj)
 | (some (t0, k0), x) :: l, h, j, t, k, e, hj => by
  simp only [ZqU, Bool.and_eq_true, Bool.not_eq_true'] at h
  cases j with
  | zero => simp only [List.getElem?_cons_zero, Option.some.injEq, Prod.mk.injEq] at hj; rw [← hj.1.1]; exact h.1
  | succ j => exact Zra h.2 j t k e (by simpa using hj)
theorem ZvB {H : Nat → Prop} {all : List Nat} {T T' : AS} (h : (Zx9 all T.tmps && Zxy all T.boxes) = true) (hm : ME H T T') {u : Nat} (hu : u ∈ all) : Zf7 (T'.strip u) T' := by
 rw [Bool.and_eq_true] at h
 refine Zqy (fun i k e he => ?_) (fun n cs hb j k e hj => ?_)
 ·by_cases hi : H i
  ·rw [hm.hid i hi] at he; cases he
  ·rw [hm.get i hi] at he
   have : Zn6 all (T.get i) = true := by
    unfold AS.get at he ⊢
    cases hl : ZL T.tmps i with
    | none => rfl
    | some d => exact Zxn h.1 i d hl
   rw [he] at this
   simp [Zn6, hu] at this
 ·rw [hm.box] at hb
  have := Zra (ZwZ h.2 n cs hb) j u k e hj
  have h2 : all.contains u = true := by simpa using hu
  rw [this] at h2; cases h2
include hL in
theorem Zuv {o : Oper} {d : D} {T : AS} {a : Act} {w : World} (hl : ZpU o.op = true) (hT : ∀ u, o.dst = some u → Zf7 (T.strip u) T) (hd : Ze0 nt o.dst = true) (hk : ZbL P L o T d []) (h : Zbd P nt df w0 M0 S0 ρ0 T a w) {next : Act → World → Prop} {Q : Exit → Act → World → Prop}
  (hn : ∀ a' w', Zbd P nt df w0 M0 S0 ρ0 (T.putO o.dst d) a' w' → next a' w') : o.wp P a w next Q := by
 have hv : (([] : Upd) = [] ∧ opV L T o.op fun r => d = r) → o.wp P a w next Q := fun ⟨_, hv⟩ => by
  obtain ⟨hdef, hsize, St, ρ, h3, h4⟩ := h
  obtain ⟨r, v, rfl, hr, hrep, htok⟩ := ZoU hL h3 hv
  unfold Oper.wp
  rw [hr, Oper.upon_value]
  refine hn _ _ ⟨by rw [Zh4]; exact hdef, by rw [ZdM]; exact hsize, St, ρ, ?_, h4⟩
  cases hdst : o.dst with
  | none => exact h3
  | some t =>
   rw [hdst] at hd
   have ht : t < nt := of_decide_eq_true hd
   exact h3.put (by rw [hsize]; exact ht) hrep htok
 unfold ZbL at hk
 split at hk
 ·rename_i hop; rw [hop] at hl; cases hl
 ·rename_i hop; rw [hop] at hl; cases hl
 ·rename_i t len parts hop
  split at hk
  case h_2 => exact hk.elim
  rename_i u e hdst hty
  split at hk
  case h_2 => exact hk.elim
  rename_i z hz
  obtain ⟨_, hs0, hzl, hbig, hK⟩ := hk
  rw [hdst] at hd hn
  have hu : u < nt := of_decide_eq_true hd
  refine Zh6 hL h hop hdst hty hz hu hs0 hzl hbig hK fun es a' w' ⟨rows', hwe, hes⟩ h' => hn _ _ ?_
  replace h' := h'.lessRows hwe
  have hTu := hT u hdst
  refine h'.less ⟨fun i => ?_, fun n cs hb => hTu.box n cs hb⟩
  simp only [AS.putO, ZdR]
  split
  ·exact .inr (.inr ⟨_, _, rfl, hes⟩)
  ·exact hTu.get i
 ·rename_i hop; rw [hop] at hl; cases hl
 ·rename_i hop; rw [hop] at hl; cases hl
 ·rename_i hop; rw [hop] at hl; cases hl
 ·rename_i hop; rw [hop] at hl; cases hl
 ·rename_i c hop
  rw [hop] at hl
  simp only [ZpU] at hl
  split at hk
  ·rename_i hc; rw [hc] at hl; cases hl
  ·rename_i hc; rw [hc] at hl; cases hl
  ·rename_i f hc; rw [hc] at hl; cases hl
  ·exact hv hk
 ·exact hv hk
include hL hnt in
theorem Zt0 {C : AS → Prop} {K : AS → Prop} {k : Nat} {o : Oper} {rest : List Oper} {H : Nat → Prop} {T T' : AS} {a : Act} {w : World} (ho : ops[k]? = some o) (hk : Zoh P L nt ops C (o :: rest) T K) (hm : ME H T T') (h : Zbd P nt df w0 M0 S0 ρ0 T' a w)
  (hops : ∀ t ∈ Zd0 o, ¬ H t) (hdst : ∀ d, o.dst = some d → ¬ H d) (hgu : ∀ g want t, o.guard = some (g, want) → Zba ops g = some t → ¬ H t)
  {Q : Exit → Act → World → Prop} {next : Act → World → Prop} (hn : ∀ T2 T2' a' w', C T2 → Zoh P L nt ops C rest T2 K → ME H T2 T2' → Zbd P nt df w0 M0 S0 ρ0 T2' a' w' → next a' w') : wpOp P ops Q k next a w := by
 unfold wpOp
 simp only [ho]
 simp only [Zoh, ZeH] at hk
 split at hk
 ·rename_i hg
  have hw : Region.wanted o (yielded ops a.tmps) = true := by simp [Region.wanted, hg]
  rw [if_pos hw]
  exact .inl (Zdu hL hnt (ZqC hm hops hdst hk) h fun S' a' w' ⟨S2, ⟨h1, h2⟩, h3⟩ h' => hn S2 S' a' w' h1 h2 h3 h')
 ·rename_i j want hg
  split at hk
  case h_2 => exact hk.elim
  rename_i g hj
  have hH : ¬ H g := hgu j want g hg hj
  split at hk
  case h_3 => exact hk.elim
  case h_2 hb =>
   obtain ⟨hd, hk1, hk2⟩ := hk
   have hval : a.tmps.getD g undef = undef := by
    obtain ⟨_, _, St, ρ, h3, _⟩ := h
    have := h3.tmp g
    rw [hm.get g hH, hb] at this
    obtain ⟨vs, hv, hl, _⟩ := this
    rw [hv]
    have : vs = [] := List.eq_nil_of_length_eq_zero hl.symm
    rw [this]; rfl
   have hw : Region.wanted o (yielded ops a.tmps) = false := by
    simp only [Region.wanted, hg]
    have : yielded ops a.tmps j = none := by
     simp only [yielded, hj, Option.bind_some]
     rw [Array.getD_eq_getD_getElem?] at hval
     cases ht : a.tmps[g]? with
     | none => rfl
     | some y => rw [ht] at hval; simp only [Option.getD_some] at hval; rw [hval]; rfl
    rw [this]; rfl
   rw [hw]
   simp only [Bool.false_eq_true, if_false]
   exact hn _ _ _ _ hk1 hk2 (hm.putO hdst _) (ZhZ h hd)
  rename_i tk b hb
  obtain ⟨hd, hk⟩ := hk
  have hyes := fun e => Zjo hk e
  have hno := fun e => Zkp hk e
  have hb' : T'.get g = .c tk (.v (.bool b)) := by rw [hm.get g hH]; exact hb
  have hval : a.tmps.getD g undef = .bool b := by
   obtain ⟨_, _, St, ρ, h3, _⟩ := h
   have := h3.tmp g
   rw [hb'] at this
   exact (Zec (d := .c tk (.v (.bool b))) this rfl).1
  have hw : Region.wanted o (yielded ops a.tmps) = (b == want) := by
   simp only [Region.wanted, hg]
   have hg2 : a.tmps[g]? = some (.bool b) := by
    rw [Array.getD_eq_getD_getElem?] at hval
    cases ht : a.tmps[g]? with
    | none => rw [ht] at hval; cases hval
    | some y => rw [ht] at hval; simp only [Option.getD_some] at hval; rw [hval]
   have : yielded ops a.tmps j = some b := by simp only [yielded, hj, Option.bind_some, hg2]
   rw [this]; rfl
  rw [hw]
  by_cases hbw : b = want
  ·subst hbw
   simp only [beq_self_eq_true, if_true]
   exact .inl (Zdu hL hnt (ZqC (hm.put hH _) hops hdst (hyes rfl)) (ZiB h hb') fun S' a' w' ⟨S2, ⟨h1, h2⟩, h3⟩ h' => hn S2 S' a' w' h1 h2 h3 h')
  ·have hb2 : b = !want := by cases b <;> cases want <;> simp_all
   have hf : (b == want) = false := by simpa using hbw
   rw [hf]
   simp only [Bool.false_eq_true, if_false]
   subst hb2
   obtain ⟨h1, h2⟩ := hno rfl
   exact hn _ _ _ _ h1 h2 ((hm.put hH _).putO hdst _) (ZhZ (ZiB h hb') hd)
structure PhX (P : Program) [Gl P] (L : Tab) (nt : Nat) (df : List Deferred) (w0 : World) (M0 : Nat → Prop) (S0 : Z1) (ρ0 : Nat → Nat) (ops : Array Oper) (es : List Nat) (C K : AS → Prop) (X : Nat → Prop) (a : Act) (w : World) : Prop where
 cl : ∀ j o, X j → ops[j]? = some o → ∀ k ∈ Zbq o, X k
 at_ : ∃ p suf T T', ZjK ops es = p ++ suf ∧ (∀ i, i ∉ es → i < ops.size → (X i ↔ i ∈ p)) ∧ C T ∧ Zoh P L nt ops C (suf.filterMap (ops[·]?)) T K ∧ ME (fun t => ∃ i ∈ es, ¬ X i ∧ Zba ops i = some t) T T' ∧ Zbd P nt df w0 M0 S0 ρ0 T' a w
theorem ZqD {i : Nat} : i ∈ ZjK ops es ↔ i < ops.size ∧ i ∉ es := by
 unfold ZjK; rw [List.mem_filter, List.mem_range]; simp
theorem Zps : (ZjK ops es).Pairwise (· < ·) := by
 unfold ZjK; exact List.Pairwise.filter _ List.pairwise_lt_range
include hL hnt in
theorem Zx8 (ok : ZCY ops es) {xs bs all : List Nat} {U : AS} {K : AS → Prop} {Q : Exit → Act → World → Prop}
  (hxs : ∀ i ∈ es, ∀ o, ops[i]? = some o → ∀ t ∈ Zd0 o, t ∈ xs) (hall : ∀ i ∈ es, ∀ t, Zba ops i = some t → t ∈ all ∧ t ∈ xs)
  (hU : ∀ i ∈ es, ∀ o, ops[i]? = some o → Ze0 nt o.dst = true ∧ ∃ u, o.dst = some u ∧ ZbL P L o (U.maskK (Zsb ops es i) bs) (U.get u) [] ∧ Zn6 all (U.get u) = true)
  (hQ : ∀ S' a' w', K S' → Zbd P nt df w0 M0 S0 ρ0 S' a' w' → Q .normal a' w') :
  ∀ (fuel : Nat) (listed : Array Bool) (a : Act) (w : World), listed.size = ops.size → listed.toList.count false = fuel →
   PhX P L nt df w0 M0 S0 ρ0 ops es (ck xs bs all U) K (Zch listed) a w → wpAny P .any ops Q fuel listed a w := by
 have alldone : ∀ {listed : Array Bool}, listed.size = ops.size → Region.ready .any ops listed = [] → ∀ i, i < ops.size → Zch listed i := fun {listed} hs hr i => by
  induction i using Nat.strongRecOn with
  | _ i ih =>
   intro hi
   rcases Classical.em (Zch listed i) with h | h
   ·exact h
   ·exfalso
    have ho : ops[i]? = some (ops[i]'hi) := by simp [hi]
    have : i ∈ Region.ready .any ops listed := (Zdc hs).2 ⟨h, _, ho, fun k hk => by
     have hki := ok.dir i _ ho k hk
     exact ih k hki (by omega)⟩
    rw [hr] at this
    simp at this
 have fin : ∀ (listed : Array Bool) (a : Act) (w : World), listed.size = ops.size → Region.ready .any ops listed = [] →
   PhX P L nt df w0 M0 S0 ρ0 ops es (ck xs bs all U) K (Zch listed) a w → Q .normal a w := by
  intro listed a w hs hr h
  have hdone := alldone hs hr
  obtain ⟨p, suf, T, T', hp, hX, hC, hk, hm, hrel⟩ := h.at_
  have hsuf : suf = [] := by
   cases suf with
   | nil => rfl
   | cons i suf =>
    exfalso
    have hmem : i ∈ ZjK ops es := by rw [hp]; simp
    obtain ⟨h1, h2⟩ := ZqD.1 hmem
    have h3 := (hX i h2 h1).1 (hdone i h1)
    have h4 := Zps (ops := ops) (es := es)
    rw [hp, List.pairwise_append] at h4
    have := h4.2.2 i h3 i (by simp)
    omega
  subst hsuf
  refine hQ T a w hk (hrel.less ⟨fun i => .inr (.inl ?_), fun n cs hn => ⟨cs, by rw [hm.box]; exact hn, rfl, fun k c hc => ⟨c, hc, rfl, .inl rfl⟩⟩⟩)
  exact (hm.get i fun ⟨j, hj, hnd, _⟩ => hnd (hdone j (ok.lt j hj))).symm
 intro fuel
 induction fuel with
 | zero =>
  intro listed a w hs hc h
  have hr : Region.ready .any ops listed = [] := by
   rw [List.eq_nil_iff_forall_not_mem]
   intro i hi
   obtain ⟨hnd, o, ho, _⟩ := (Zdc hs).1 hi
   have hlt : i < listed.size := by rw [hs]; exact (Array.getElem?_eq_some_iff.1 ho).1
   have hf : listed[i] = false := by unfold Zch at hnd; simpa [Array.getD, hlt] using hnd
   have hmem : false ∈ listed.toList := by rw [← hf]; simp
   have := List.count_pos_iff.2 hmem
   omega
  exact ⟨hr, fin listed a w hs hr h⟩
 | succ fuel ih =>
  intro listed a w hs hc h
  refine ⟨fun hr => fin listed a w hs hr h, fun i hi => ?_⟩
  obtain ⟨hnd, o, ho, hdir⟩ := (Zdc hs).1 hi
  have hlt : i < listed.size := by rw [hs]; exact (Array.getElem?_eq_some_iff.1 ho).1
  have hs' : (listed.setIfInBounds i true).size = ops.size := by simp [hs]
  have hc' : (listed.setIfInBounds i true).toList.count false = fuel := by
   have hf : listed.toList[i]'(by simpa using hlt) = false := by unfold Zch at hnd; simpa [Array.getD, hlt] using hnd
   rw [Array.toList_setIfInBounds, List.count_set (by simpa using hlt)]
   simp only [hf, hc, beq_self_eq_true, if_true]
   simp
  have hD : Zch (listed.setIfInBounds i true) = fun j => Zch listed j ∨ j = i := funext fun j => propext (Zfs hlt j)
  obtain ⟨p, suf, T, T', hp, hX, hC, hk, hm, hrel⟩ := h.at_
  have hpre := Zpi ok.dir h.cl i o ho hdir
  have hcl' : ∀ j oj, (Zch listed j ∨ j = i) → ops[j]? = some oj → ∀ k ∈ Zbq oj, Zch listed k ∨ k = i := fun j oj hj hoj k hk => by
   rcases hj with hj | rfl
   ·exact .inl (h.cl j oj hj hoj k hk)
   ·rw [ho] at hoj; injection hoj with hoj; subst hoj; exact .inl (hdir k hk)
  have hio : i < ops.size := by rw [← hs]; exact hlt
  by_cases hie : i ∈ es
  ·
   obtain ⟨l1, l2, l3, ⟨u, hu⟩, l5, l6⟩ := ok.light i o hie ho
   obtain ⟨hd, u', hu', hfree, htok⟩ := hU i hie o ho
   rw [hu] at hu'; injection hu' with hu'; subst hu'
   have hdi : Zba ops i = some u := by simp [Zba, ho, hu]
   obtain ⟨c1, c2, c3⟩ := hC
   have hfree' : ZbL P L o T' (U.get u) [] := by
    refine Zjz (fun n cs hn => ?_) (fun x hx => ?_) hfree
    ·rw [Zr1] at hn
     split at hn
     ·rename_i hcn; rw [hm.box, Zxs c2 n (by simpa using hcn)]; exact hn
     ·cases hn
    ·cases x with
     | tmp t =>
      have htm : t ∈ Zd0 o := by
       unfold Zd0
       rw [List.mem_filterMap]
       exact ⟨.tmp t, by simpa using hx, rfl⟩
      simp only [AS.ev]
      rw [Zpf, if_neg, hm.get t, ZsV c1 t (hxs i hie o ho t htm)]
      ·rintro ⟨j, hj, hnj, hjt⟩
       exact hnj (hpre j (l6 j hj t hjt htm))
      ·intro hc'
       have hc' : t ∈ Zsb ops es i := by simpa using hc'
       unfold Zsb at hc'
       rw [List.mem_filterMap] at hc'
       obtain ⟨j, hj, hjt⟩ := hc'
       split at hjt
       ·cases hjt
       ·rename_i hnc
        exact hnc (by simpa using l6 j hj t hjt htm)
     | _ => rfl
   unfold wpOp
   simp only [ho]
   have hw : Region.wanted o (yielded ops a.tmps) = true := by simp [Region.wanted, l2]
   rw [if_pos hw]
   refine .inl (Zuv hL l1 (fun q hq => ZvB c3 hm (by rw [hu] at hq; injection hq with hq; subst hq; exact (hall i hie _ hdi).1)) hd hfree' hrel fun a' w' h' => ih _ a' w' hs' hc' ?_)
   rw [hD]
   refine ⟨hcl', p, suf, T, T'.putO o.dst (U.get u), hp, fun j hj hjs => ?_, ⟨c1, c2, c3⟩, hk, ?_, h'⟩
   ·rw [← hX j hj hjs]
    exact ⟨fun hh => hh.resolve_right (fun e => hj (e ▸ hie)), .inl⟩
   ·rw [hu]
    refine ⟨fun t ⟨j, hj, hnj, hjt⟩ => ?_, fun t ht => ?_, fun n => ?_⟩
    ·have hne : t ≠ u := fun e => by
      subst e
      refine l5 j hj (fun e => hnj (.inr e)) ?_
      rw [hjt, hu]
     show (T'.put u _).get t = _
     rw [ZdR, if_neg hne]
     exact hm.hid t ⟨j, hj, fun hh => hnj (.inl hh), hjt⟩
    ·show (T'.put u _).get t = _
     rw [ZdR]
     by_cases he : t = u
     ·subst he
      rw [if_pos rfl]
      exact (ZsV c1 t (hall i hie t hdi).2).symm
     ·rw [if_neg he]
      refine hm.get t fun ⟨j, hj, hnj, hjt⟩ => ht ⟨j, hj, fun hh => ?_, hjt⟩
      rcases hh with hh | rfl
      ·exact hnj hh
      ·rw [hdi] at hjt; injection hjt with hjt; exact he hjt.symm
    ·exact hm.box n
  ·
   obtain ⟨t1, t2⟩ := ok.tail i o hie ho
   have hip : i ∉ p := fun hmem => hnd ((hX i hie hio).2 hmem)
   have hmem : i ∈ ZjK ops es := ZqD.2 ⟨hio, hie⟩
   obtain ⟨suf', rfl⟩ : ∃ suf', suf = i :: suf' := by
    rw [hp, List.mem_append] at hmem
    have hmem := hmem.resolve_left hip
    cases suf with
    | nil => simp at hmem
    | cons j suf' =>
     rcases List.mem_cons.1 hmem with rfl | hmem
     ·exact ⟨suf', rfl⟩
     ·exfalso
      have h4 := Zps (ops := ops) (es := es)
      rw [hp, List.pairwise_append] at h4
      have hji : j < i := (List.pairwise_cons.1 h4.2.1).1 i hmem
      have hjt : j ∈ ZjK ops es := by rw [hp]; simp
      obtain ⟨hjs, hje⟩ := ZqD.1 hjt
      have hjp := (hX j hje hjs).1 (hpre j ((t1 j hji).resolve_left hje))
      have := h4.2.2 j hjp j (by simp)
      omega
   simp only [List.filterMap_cons, ho] at hk
   refine Zt0 hL hnt ho hk hm hrel (fun t ht ⟨j, hj, hnj, hjt⟩ => hnj (hpre j ((t2 j hj t hjt).2.1 ht))) (fun d hd ⟨j, hj, hnj, hjt⟩ => (t2 j hj d hjt).1 hd) (fun g want t hg hgt ⟨j, hj, hnj, hjt⟩ => hnj (hpre j ((t2 j hj t hjt).2.2 g want hg hgt))) ?_
   intro T2 T2' a' w' hC2 hk2 hm2 h'
   refine ih _ a' w' hs' hc' ?_
   rw [hD]
   refine ⟨hcl', p ++ [i], suf', T2, T2', by rw [hp]; simp, fun j hj hjs => ?_, hC2, hk2, ?_, h'⟩
   ·rw [List.mem_append, List.mem_singleton, hX j hj hjs]
   ·have he : (fun t => ∃ j ∈ es, ¬ (Zch listed j ∨ j = i) ∧ Zba ops j = some t) = fun t => ∃ j ∈ es, ¬ Zch listed j ∧ Zba ops j = some t := funext fun t => propext
     ⟨fun ⟨j, hj, hnj, hjt⟩ => ⟨j, hj, fun hh => hnj (.inl hh), hjt⟩, fun ⟨j, hj, hnj, hjt⟩ => ⟨j, hj, fun hh => hh.elim hnj (fun e => hie (e ▸ hj)), hjt⟩⟩
    rw [he]; exact hm2
include hL in
theorem Zvm (hnt : nt ≤ EXT) : ZAw P L nt (@Zyw) := by
 intro df w0 M0 S0 ρ0 ops S a w K Q hk h hQ
 obtain ⟨es, hs, bs, xs, all, tl, h1, h2⟩ := hk
 simp only [Bool.and_eq_true, beq_iff_eq] at h1
 obtain ⟨⟨⟨⟨⟨h1, rfl⟩, rfl⟩, rfl⟩, hx⟩, hax⟩ := h1
 rw [ZeH] at h2
 have ok := ZA3 h1
 obtain ⟨U, ⟨hcU, hkU⟩, k2, k3, k4⟩ := ZlF (P := P) (L := L) (nt := nt) ok es _ _ _ rfl (fun i hi => hi) ok.sorted h2
 have hmd : ∀ i ∈ es, ∀ t, Zba ops i = some t → t ∈ Zsj ops es := fun i hi t ht => List.mem_filterMap.2 ⟨i, hi, ht⟩
 refine (Zx8 hL hnt ok (xs := xs) (bs := bs) (all := Zsj ops es) (U := U) (K := K) (fun i hi o ho t ht => ?_) (fun i hi t ht => ⟨hmd i hi t ht, ?_⟩) k4 hQ ops.size _ a _ (by simp) (by simp [List.count_replicate]) ⟨fun j o hj => ?_, [], ZjK ops es, U, S.drop (Zsj ops es), rfl, fun i hi hlt => ⟨fun hd => ?_, fun hd => by simp at hd⟩, hcU, hkU, ?_, ?_⟩)
 ·have := List.all_eq_true.1 hx i hi
  rw [ho] at this
  have := List.all_eq_true.1 this t ht
  simpa using this
 ·have := List.all_eq_true.1 hax t (hmd i hi t ht)
  simpa using this
 ·exfalso; unfold Zch at hj; simp [Array.getD, Array.getElem_replicate] at hj
 ·exfalso; unfold Zch at hd; simp [Array.getD, Array.getElem_replicate] at hd
 ·refine ⟨fun t ⟨i, hi, _, ht⟩ => ?_, fun t ht => ?_, fun n => (k3 n).symm⟩
  ·rw [Zn4, Ztl, if_pos (by simpa using hmd i hi t ht)]; rfl
  ·refine (k2 t fun i hi he => ht ⟨i, hi, fun hd => ?_, he⟩).symm
   unfold Zch at hd; simp [Array.getD, Array.getElem_replicate] at hd
 ·have h1 := h.less (Zt2 S (Zsj ops es))
  obtain ⟨h2, h3, St, ρ, h4, h5⟩ := h1
  replace h4 : ZA P w0 M0 S0 (S.drop (Zsj ops es)) a.tmps w St ρ := by
   obtain ⟨_, _, St', ρ', h6, _⟩ := h
   exact h4.turn (Zsc _ h6.nm) (fun n m hm => by obtain ⟨rfl, _⟩ := ZeG hm; exact ⟨rfl, rfl⟩)
  exact ⟨h2, h3, St, ρ, h4, h5⟩
include hL in
theorem Zny (hnt : nt ≤ EXT) : ZAw P L nt (@Zso) := by
 intro df w0 M0 S0 ρ0 ops S a w K Q hk h hQ
 rcases hk with hk | hk
 ·exact Zx2 hL hnt df w0 M0 S0 ρ0 ops S a w K Q hk h hQ
 ·exact Zvm hL hnt df w0 M0 S0 ρ0 ops S a w K Q hk h hQ
end

def Zpp (s : Nat) (o : Oper) : Oper := { o with after := (o.after.toList.filterMap fun e => if e.on < s then none else some { e with on := e.on - s }).toArray }
def Zg6 (ops : Array Oper) (s : Nat) : Array Oper := (ops.toList.take s).toArray
def ZiZ (ops : Array Oper) (s : Nat) : Array Oper := ((ops.toList.drop s).map (Zpp s)).toArray
def Zs0 (ops : Array Oper) (s : Nat) : Bool :=
 Nat.ble s ops.size && (List.range ops.size).all fun i => match ops[i]? with
  | none => false
  | some o => (Zbq o).all (· < i) && (match o.guard with | some (j, _) => decide (j < i) | none => true) && (if Nat.blt i s then true else o.guard.isNone && (List.range s).all fun j => (Zbr ops i).contains j)
def Zp4 (ops : Array Oper) (s : Nat) : Bool :=
 Nat.ble s ops.size && (List.range ops.size).all fun i => match ops[i]? with
  | none => false
  | some o => (Zbq o).all (· < i) && (match o.guard with | some (j, _) => decide (j < i) | none => true) && (if Nat.blt i s then true else (List.range s).all fun j => (Zbr ops i).contains j)
def ZA4 (ops : Array Oper) (rem : List Nat) : List Nat := rem.filter fun i => match ops[i]? with | some o => rem.all fun j => !(Zbq o).contains j | none => false
def ZEw (P : Program) [Gl P] (L : Tab) (nt : Nat) (ops : Array Oper) (i : Nat) (S : AS) (K : AS → Prop) : Prop :=
 match ops[i]? with
 | some o => ZlK P L nt ops [o] S K
 | none => False
def ZDA (f : Nat → Prop) : List Nat → Prop
 | [] => True
 | [i] => f i
 | i :: is => f i ∧ ZDA f is
def ZB2 (P : Program) [Gl P] (L : Tab) (nt : Nat) (ops : Array Oper) : Nat → List Nat → AS → (AS → Prop) → Prop
 | 0, rem, S, K => rem.isEmpty = true ∧ K S
 | n + 1, rem, S, K => ∃ rs : List Nat, (rs == ZA4 ops rem) = true ∧ ZDA (fun i => ZEw P L nt ops i S fun S' => ZB2 P L nt ops n (rem.erase i) S' K) rs
def ZhU (ops : Array Oper) (s : Nat) : List Nat := (List.range ops.size).drop s
def Zsw (P : Program) [Gl P] (L : Tab) (nt : Nat) (ops : Array Oper) (S : AS) (K : AS → Prop) : Prop :=
 Zso P L nt ops S K ∨ (∃ s, Zs0 ops s = true ∧ Zso P L nt (Zg6 ops s) S fun S' => ZdU S' fun S' => Zso P L nt (ZiZ ops s) S' K) ∨
  ∃ s tl, (Zp4 ops s && tl == ZhU ops s) = true ∧ Zso P L nt (Zg6 ops s) S fun S' => ZB2 P L nt ops tl.length tl S' K
section
variable {P : Program} {ops : Array Oper} {s : Nat}
structure SOk (ops : Array Oper) (s : Nat) : Prop where
 le : s ≤ ops.size
 dir : ∀ i (o : Oper), ops[i]? = some o → ∀ j ∈ Zbq o, j < i
 grd : ∀ i (o : Oper), ops[i]? = some o → ∀ j b, o.guard = some (j, b) → j < i
 beh : ∀ i, s ≤ i → i < ops.size → ∀ j, j < s → j ∈ Zbr ops i
theorem Zwx (h : Zp4 ops s = true) : SOk ops s := by
 unfold Zp4 at h
 rw [Bool.and_eq_true, Nat.ble_eq, List.all_eq_true] at h
 obtain ⟨h1, h2⟩ := h
 have h3 : ∀ i o, ops[i]? = some o → (Zbq o).all (· < i) = true ∧ (match o.guard with | some (j, _) => decide (j < i) | none => true) = true ∧ (if Nat.blt i s then true else (List.range s).all fun j => (Zbr ops i).contains j) = true := fun i o ho => by
  have := h2 i (List.mem_range.2 (Array.getElem?_eq_some_iff.1 ho).1)
  simp only [ho, Bool.and_eq_true] at this
  exact ⟨this.1.1, this.1.2, this.2⟩
 refine ⟨h1, fun i o ho j hj => ?_, fun i o ho j b hg => ?_, fun i hi hlt j hj => ?_⟩
 ·have := List.all_eq_true.1 (h3 i o ho).1 j hj
  simpa using this
 ·have := (h3 i o ho).2.1
  rw [hg] at this
  simpa using this
 ·have ho : ops[i]? = some (ops[i]'hlt) := by simp [hlt]
  have := (h3 i _ ho).2.2
  rw [if_neg (by simp; omega)] at this
  have := List.all_eq_true.1 this j (List.mem_range.2 hj)
  simpa using this
theorem ZCE (h : Zs0 ops s = true) : SOk ops s ∧ ∀ i (o : Oper), s ≤ i → ops[i]? = some o → o.guard = none := by
 unfold Zs0 at h
 rw [Bool.and_eq_true, Nat.ble_eq, List.all_eq_true] at h
 obtain ⟨h1, h2⟩ := h
 have h3 : ∀ i o, ops[i]? = some o → (Zbq o).all (· < i) = true ∧ (match o.guard with | some (j, _) => decide (j < i) | none => true) = true ∧ (if Nat.blt i s then true else o.guard.isNone && (List.range s).all fun j => (Zbr ops i).contains j) = true := fun i o ho => by
  have := h2 i (List.mem_range.2 (Array.getElem?_eq_some_iff.1 ho).1)
  simp only [ho, Bool.and_eq_true] at this
  exact ⟨this.1.1, this.1.2, this.2⟩
 refine ⟨Zwx ?_, fun i o hi ho => ?_⟩
 ·unfold Zp4
  rw [Bool.and_eq_true, Nat.ble_eq, List.all_eq_true]
  refine ⟨h1, fun i hi => ?_⟩
  have hlt := List.mem_range.1 hi
  have ho : ops[i]? = some (ops[i]'hlt) := by simp [hlt]
  obtain ⟨g1, g2, g3⟩ := h3 i _ ho
  rw [ho]
  simp only [Bool.and_eq_true]
  refine ⟨⟨g1, g2⟩, ?_⟩
  split at g3
  ·rename_i hb; rw [if_pos hb]
  ·rename_i hb; rw [if_neg hb]; rw [Bool.and_eq_true] at g3; exact g3.2
 ·have := (h3 i o ho).2.2
  rw [if_neg (by simp; omega), Bool.and_eq_true] at this
  simpa using this.1
theorem Zs9 {i : Nat} (h : i < s) : (Zg6 ops s)[i]? = ops[i]? := by
 unfold Zg6
 rw [List.getElem?_toArray, List.getElem?_take_of_lt h, Array.getElem?_toList]
theorem ZtR (h : s ≤ ops.size) : (Zg6 ops s).size = s := by unfold Zg6; simp [h]
theorem Ztr (i : Nat) : (ZiZ ops s)[i]? = (ops[s + i]?).map (Zpp s) := by
 unfold ZiZ
 rw [List.getElem?_toArray, List.getElem?_map, List.getElem?_drop, Array.getElem?_toList]
theorem ZuT : (ZiZ ops s).size = ops.size - s := by unfold ZiZ; simp
theorem Zq5 (o : Oper) (k : Nat) : k ∈ Zbq (Zpp s o) ↔ s + k ∈ Zbq o := by
 unfold Zbq Zpp
 simp only [List.mem_map, List.mem_filter, List.mem_filterMap]
 constructor
 ·rintro ⟨e, ⟨⟨e0, h1, h2⟩, h3⟩, rfl⟩
  split at h2
  ·cases h2
  ·injection h2 with h2
   subst h2
   refine ⟨e0, ⟨h1, ?_⟩, by simp; omega⟩
   exact h3
 ·rintro ⟨e, ⟨h1, h3⟩, h4⟩
  refine ⟨{ e with on := e.on - s }, ⟨⟨e, h1, ?_⟩, h3⟩, by simp; omega⟩
  rw [if_neg (by omega)]
theorem ZyT {o : Oper} {a : Act} {w : World} {next : Act → World → Prop} {Q Q1 : Exit → Act → World → Prop} (hp : ∀ c a w, Q1 (.panic c) a w → Q (.panic c) a w) (ho : LetsOut Q1 → LetsOut Q) (h : o.wp P a w next Q1) : o.wp P a w next Q := by
 unfold Oper.wp at *
 generalize (execOp a.eval o).run P w = r at *
 cases r with
 | ok n w' =>
  cases n <;> simp only [Oper.upon] at h ⊢ <;>
   first
    | exact h
    | exact Calls.mono h (fun e w'' he => by cases e <;> first | exact he | exact hp _ _ _ he | exact ho he)
 | halt x w' => cases x <;> simp only [Oper.upon] at h ⊢ <;> first | exact hp _ _ _ h | exact h
theorem Zvu {ops1 : Array Oper} {i : Nat} (ok : SOk ops s) (hi : i < s) {a : Act} {w : World} {next next' : Act → World → Prop} {Q Q1 : Exit → Act → World → Prop} (hp : ∀ c a w, Q1 (.panic c) a w → Q (.panic c) a w) (ho : LetsOut Q1 → LetsOut Q)
  (hn : ∀ a w, next a w → next' a w) (h : wpOp P (Zg6 ops s) Q1 i next a w) : wpOp P ops Q i next' a w := by
 unfold wpOp at h ⊢
 rw [Zs9 hi] at h
 cases hoi : ops[i]? with
 | none => rw [hoi] at h; exact hn _ _ h
 | some o =>
  rw [hoi] at h
  simp only at h ⊢
  have hy : Region.wanted o (yielded (Zg6 ops s) a.tmps) = Region.wanted o (yielded ops a.tmps) := by
   unfold Region.wanted
   cases hg : o.guard with
   | none => rfl
   | some q =>
    obtain ⟨j, b⟩ := q
    have hj := ok.grd i o hoi j b hg
    have : yielded (Zg6 ops s) a.tmps j = yielded ops a.tmps j := by unfold yielded; rw [Zs9 (by omega)]
    simp only [this]
  rw [hy] at h
  split
  ·rename_i hw
   rw [if_pos hw] at h
   rcases h with h | ⟨h1, h2⟩
   ·exact .inl (ZyT hp ho (Oper.wp_mono hn h))
   ·exact .inr ⟨h1, ho h2⟩
  ·rename_i hw
   rw [if_neg hw] at h
   exact hn _ _ h
theorem ZxW {listed : Array Bool} (hs : listed.size = s) (h : ∀ i, i < s → Zch listed i) : listed.toList.count false = 0 := by
 rw [List.count_eq_zero]
 intro hm
 obtain ⟨i, hi, he⟩ := List.getElem_of_mem hm
 have hlt : i < listed.size := by simpa using hi
 have := h i (by omega)
 unfold Zch at this
 simp [Array.getD, hlt] at this he
 rw [he] at this; cases this
theorem Zx7 (ok : SOk ops s) {Q : Exit → Act → World → Prop} :
  ∀ (fuel : Nat) (listed listed1 : Array Bool) (a : Act) (w : World), listed.size = ops.size → listed1.size = s → (∀ i, i < s → (Zch listed i ↔ Zch listed1 i)) → (∀ i, s ≤ i → ¬ Zch listed i) →
   (∀ j o, Zch listed j → ops[j]? = some o → ∀ k ∈ Zbq o, Zch listed k) → listed1.toList.count false = fuel →
   wpAny P .any (Zg6 ops s) (fun e a w => match e with | .normal => ∀ l : Array Bool, l.size = ops.size → (∀ i, Zch l i ↔ i < s) → wpAny P .any ops Q (ops.size - s) l a w | e => Q e a w) fuel listed1 a w →
   wpAny P .any ops Q (fuel + (ops.size - s)) listed a w := by
 intro fuel
 induction fuel with
 | zero =>
  intro listed listed1 a w h1 h2 h3 h4 h5 h6 h
  rw [Nat.zero_add]
  refine h.2 listed h1 fun i => ⟨fun hd => ?_, fun hi => ?_⟩
  ·rcases Nat.lt_or_ge i s with hlt | hge
   ·exact hlt
   ·exact absurd hd (h4 i hge)
  ·refine (h3 i hi).2 ?_
   rcases Classical.em (Zch listed1 i) with hd | hd
   ·exact hd
   ·exfalso
    have hlt : i < listed1.size := by omega
    have hf : listed1[i] = false := by unfold Zch at hd; simpa [Array.getD, hlt] using hd
    have hmem : false ∈ listed1.toList := by rw [← hf]; simp
    have := List.count_pos_iff.2 hmem
    omega
 | succ fuel ih =>
  intro listed listed1 a w h1 h2 h3 h4 h5 h6 h
  have hps := ZtR ok.le
  have h2' : listed1.size = (Zg6 ops s).size := by rw [hps]; exact h2
  have notall : ¬ ∀ i, i < s → Zch listed i := fun hall => by
   have := ZxW h2 fun i hi => (h3 i hi).1 (hall i hi)
   omega
  have small : ∀ i, i ∈ Region.ready .any ops listed → i < s := fun i hi => by
   obtain ⟨hnd, o, ho, hdir⟩ := (Zdc h1).1 hi
   rcases Nat.lt_or_ge i s with hlt | hge
   ·exact hlt
   ·exfalso
    refine notall fun j hj => Zpi ok.dir (X := Zch listed) h5 i o ho hdir j (ok.beh i hge (Array.getElem?_eq_some_iff.1 ho).1 j hj)
  rw [Nat.succ_add]
  refine ⟨fun hr => ?_, fun i hi => ?_⟩
  ·exfalso
   refine notall fun i => ?_
   induction i using Nat.strongRecOn with
   | _ i ihi =>
    intro hi
    rcases Classical.em (Zch listed i) with hd | hd
    ·exact hd
    ·exfalso
     have hlt : i < ops.size := Nat.lt_of_lt_of_le hi ok.le
     have ho : ops[i]? = some (ops[i]'hlt) := by simp [hlt]
     have : i ∈ Region.ready .any ops listed := (Zdc h1).2 ⟨hd, _, ho, fun k hk => ihi k (ok.dir i _ ho k hk) (by have := ok.dir i _ ho k hk; omega)⟩
     rw [hr] at this
     simp at this
  ·have his := small i hi
   obtain ⟨hnd, o, ho, hdir⟩ := (Zdc h1).1 hi
   have hi1 : i ∈ Region.ready .any (Zg6 ops s) listed1 := (Zdc h2').2 ⟨fun hd => hnd ((h3 i his).2 hd), o, by rw [Zs9 his]; exact ho, fun k hk => (h3 k (by have := ok.dir i o ho k hk; omega)).1 (hdir k hk)⟩
   refine Zvu (ops1 := ops) ok his (fun c a w h => h) (fun h => h) (fun a' w' h' => ?_) (h.2 i hi1)
   have hlt : i < listed.size := by rw [h1]; exact (Array.getElem?_eq_some_iff.1 ho).1
   have hlt1 : i < listed1.size := by omega
   refine ih _ (listed1.setIfInBounds i true) a' w' (by simp [h1]) (by simp [h2]) (fun j hj => ?_) (fun j hj hd => ?_) (fun j oj hj hoj k hk => ?_) ?_ h'
   ·rw [Zfs hlt, Zfs hlt1, h3 j hj]
   ·rcases (Zfs hlt j).1 hd with h7 | h7
    ·exact h4 j hj h7
    ·omega
   ·rw [Zfs hlt] at hj ⊢
    rcases hj with hj | rfl
    ·exact .inl (h5 j oj hj hoj k hk)
    ·rw [ho] at hoj; injection hoj with hoj; subst hoj; exact .inl (hdir k hk)
   ·have hnd1 : ¬ Zch listed1 i := fun hd => hnd ((h3 i his).2 hd)
    have hf : listed1.toList[i]'(by simpa using hlt1) = false := by unfold Zch at hnd1; simpa [Array.getD, hlt1] using hnd1
    rw [Array.toList_setIfInBounds, List.count_set (by simpa using hlt1)]
    simp only [hf, h6, beq_self_eq_true, if_true]
    simp
theorem ZBx (ok : SOk ops s) (ng : ∀ i (o : Oper), s ≤ i → ops[i]? = some o → o.guard = none) {Q : Exit → Act → World → Prop} :
  ∀ (fuel : Nat) (listed listed2 : Array Bool) (a : Act) (w : World), listed.size = ops.size → listed2.size = ops.size - s → (∀ i, i < s → Zch listed i) → (∀ i, Zch listed (s + i) ↔ Zch listed2 i) →
   wpAny P .any (ZiZ ops s) Q fuel listed2 a w → wpAny P .any ops Q fuel listed a w := by
 have rdy : ∀ (listed listed2 : Array Bool), listed.size = ops.size → listed2.size = ops.size - s → (∀ i, i < s → Zch listed i) → (∀ i, Zch listed (s + i) ↔ Zch listed2 i) →
   ∀ i, i ∈ Region.ready .any ops listed ↔ s ≤ i ∧ i - s ∈ Region.ready .any (ZiZ ops s) listed2 := fun listed listed2 h1 h2 h3 h4 i => by
  rw [Zdc h1, Zdc (by rw [h2, ZuT])]
  constructor
  ·rintro ⟨hnd, o, ho, hdir⟩
   have hge : s ≤ i := by
    rcases Nat.lt_or_ge i s with hlt | hge
    ·exact absurd (h3 i hlt) hnd
    ·exact hge
   have e : s + (i - s) = i := by omega
   refine ⟨hge, fun hd => hnd (by rw [← e]; exact (h4 _).2 hd), Zpp s o, by rw [Ztr, e, ho]; rfl, fun k hk => (h4 k).1 (hdir _ ((Zq5 o k).1 hk))⟩
  ·rintro ⟨hge, hnd, o2, ho2, hdir⟩
   have e : s + (i - s) = i := by omega
   rw [Ztr, e, Option.map_eq_some_iff] at ho2
   obtain ⟨o, ho, rfl⟩ := ho2
   refine ⟨fun hd => hnd ((h4 _).1 (by rw [e]; exact hd)), o, ho, fun k hk => ?_⟩
   rcases Nat.lt_or_ge k s with hlt | hge'
   ·exact h3 k hlt
   ·have e' : s + (k - s) = k := by omega
    rw [← e']
    exact (h4 _).2 (hdir _ ((Zq5 o _).2 (by rw [e']; exact hk)))
 have empt : ∀ (listed listed2 : Array Bool), listed.size = ops.size → listed2.size = ops.size - s → (∀ i, i < s → Zch listed i) → (∀ i, Zch listed (s + i) ↔ Zch listed2 i) →
   (Region.ready .any ops listed = [] ↔ Region.ready .any (ZiZ ops s) listed2 = []) := fun listed listed2 h1 h2 h3 h4 => by
  rw [List.eq_nil_iff_forall_not_mem, List.eq_nil_iff_forall_not_mem]
  constructor
  ·intro h i hi
   exact h (s + i) ((rdy _ _ h1 h2 h3 h4 _).2 ⟨by omega, by rw [show s + i - s = i by omega]; exact hi⟩)
  ·intro h i hi
   exact h _ ((rdy _ _ h1 h2 h3 h4 _).1 hi).2
 intro fuel
 induction fuel with
 | zero =>
  intro listed listed2 a w h1 h2 h3 h4 h
  exact ⟨(empt _ _ h1 h2 h3 h4).2 h.1, h.2⟩
 | succ fuel ih =>
  intro listed listed2 a w h1 h2 h3 h4 h
  refine ⟨fun hr => h.1 ((empt _ _ h1 h2 h3 h4).1 hr), fun i hi => ?_⟩
  obtain ⟨hge, hi2⟩ := (rdy _ _ h1 h2 h3 h4 i).1 hi
  obtain ⟨hnd, o, ho, _⟩ := (Zdc h1).1 hi
  have e : s + (i - s) = i := by omega
  have ho2 : (ZiZ ops s)[i - s]? = some (Zpp s o) := by rw [Ztr, e, ho]; rfl
  have hlt : i < listed.size := by rw [h1]; exact (Array.getElem?_eq_some_iff.1 ho).1
  have hlt2 : i - s < listed2.size := by omega
  have h7 := h.2 (i - s) hi2
  unfold wpOp at h7 ⊢
  rw [ho2] at h7
  rw [ho]
  simp only at h7 ⊢
  have hg := ng i o hge ho
  have hw : ∀ f, Region.wanted o f = true := fun f => by simp [Region.wanted, hg]
  have hw2 : ∀ f, Region.wanted (Zpp s o) f = true := fun f => by simp [Region.wanted, Zpp, hg]
  rw [if_pos (hw _)]
  rw [if_pos (hw2 _)] at h7
  have hnext : ∀ a' w', wpAny P .any (ZiZ ops s) Q fuel (listed2.setIfInBounds (i - s) true) a' w' → wpAny P .any ops Q fuel (listed.setIfInBounds i true) a' w' := fun a' w' h' => by
   refine ih _ _ a' w' (by simp [h1]) (by simp [h2]) (fun j hj => (Zfs hlt j).2 (.inl (h3 j hj))) (fun j => ?_) h'
   rw [Zfs hlt, Zfs hlt2, h4 j]
   constructor
   ·rintro (h | h)
    ·exact .inl h
    ·exact .inr (by omega)
   ·rintro (h | h)
    ·exact .inl h
    ·exact .inr (by omega)
  rcases h7 with h7 | h7
  ·exact .inl (Oper.wp_mono hnext h7)
  ·exact .inr h7
end
section
variable {P : Program} [Gl P] {L : Tab} (hL : TOk P L) {nt : Nat} {ops : Array Oper} {s : Nat}
theorem ZtP {f : Nat → Prop} : ∀ {l : List Nat}, ZDA f l → ∀ i ∈ l, f i
 | [], _, i, hi => absurd hi List.not_mem_nil
 | [j], h, i, hi => by rw [List.mem_singleton] at hi; subst hi; exact h
 | j :: k :: l, h, i, hi => by
  rcases List.mem_cons.1 hi with rfl | hi
  ·exact h.1
  ·exact ZtP h.2 i hi
include hL in
theorem ZAX (hnt : nt ≤ EXT) (hdir : ∀ i (o : Oper), ops[i]? = some o → ∀ j ∈ Zbq o, j < i) {df : List Deferred} {w0 : World} {M0 : Nat → Prop} {S0 : Z1} {ρ0 : Nat → Nat} {K : AS → Prop} {Q : Exit → Act → World → Prop}
  (hQ : ∀ S' a' w', K S' → Zbd P nt df w0 M0 S0 ρ0 S' a' w' → Q .normal a' w') :
  ∀ (n : Nat) (rem : List Nat) (listed : Array Bool) (S : AS) (a : Act) (w : World), listed.size = ops.size → (∀ i, i < ops.size → (Zch listed i ↔ i ∉ rem)) → rem.Nodup → (∀ i ∈ rem, i < ops.size) → rem.length = n →
   ZB2 P L nt ops n rem S K → Zbd P nt df w0 M0 S0 ρ0 S a w → wpAny P .any ops Q n listed a w := by
 intro n
 induction n with
 | zero =>
  intro rem listed S a w h1 h2 h3 h4 h5 hk h
  have hr : rem = [] := List.eq_nil_of_length_eq_zero h5
  subst hr
  refine ⟨?_, hQ S a w hk.2 h⟩
  rw [List.eq_nil_iff_forall_not_mem]
  intro i hi
  obtain ⟨hnd, o, ho, _⟩ := (Zdc h1).1 hi
  exact hnd ((h2 i (Array.getElem?_eq_some_iff.1 ho).1).2 List.not_mem_nil)
 | succ n ih =>
  intro rem listed S a w h1 h2 h3 h4 h5 hk h
  obtain ⟨rs, hrs, hall⟩ := hk
  have hrs : rs = ZA4 ops rem := by simpa using hrs
  subst hrs
  refine ⟨fun hr => ?_, fun i hi => ?_⟩
  ·exfalso
   have alld : ∀ i, i < ops.size → Zch listed i := fun i => by
    induction i using Nat.strongRecOn with
    | _ i ihi =>
     intro hi
     rcases Classical.em (Zch listed i) with hd | hd
     ·exact hd
     ·exfalso
      have ho : ops[i]? = some (ops[i]'hi) := by simp [hi]
      have : i ∈ Region.ready .any ops listed := (Zdc h1).2 ⟨hd, _, ho, fun k hk => ihi k (hdir i _ ho k hk) (by have := hdir i _ ho k hk; omega)⟩
      rw [hr] at this
      simp at this
   cases rem with
   | nil => simp at h5
   | cons i rem => exact (h2 i (h4 i (by simp))).1 (alld i (h4 i (by simp))) (by simp)
  ·obtain ⟨hnd, o, ho, hd⟩ := (Zdc h1).1 hi
   have hio : i < ops.size := (Array.getElem?_eq_some_iff.1 ho).1
   have hir : i ∈ rem := by
    rcases Classical.em (i ∈ rem) with hm | hm
    ·exact hm
    ·exact absurd ((h2 i hio).2 hm) hnd
   have hrd : i ∈ ZA4 ops rem := by
    unfold ZA4
    rw [List.mem_filter]
    refine ⟨hir, ?_⟩
    rw [ho]
    show (rem.all fun j => !(Zbq o).contains j) = true
    rw [List.all_eq_true]
    intro j hj
    simp only [Bool.not_eq_true', List.contains_eq_mem, decide_eq_false_iff_not]
    intro hjd
    exact (h2 j (h4 j hj)).1 (hd j hjd) hj
   have hone := ZtP hall i hrd
   unfold ZEw at hone
   rw [ho] at hone
   have hlt : i < listed.size := by rw [h1]; exact hio
   refine Zqx hL hnt ho hone h fun T' a' w' hk' h' => ih (rem.erase i) _ T' a' w' (by simp [h1]) (fun j hj => ?_) (h3.erase i) (fun j hj => h4 j (List.mem_of_mem_erase hj)) (by rw [List.length_erase_of_mem hir]; omega) hk' h'
   rw [Zfs hlt, h2 j hj, List.Nodup.mem_erase_iff h3]
   constructor
   ·rintro (hh | rfl)
    ·exact fun hm => hh hm.2
    ·exact fun hm => hm.1 rfl
   ·intro hh
    by_cases he : j = i
    ·exact .inr he
    ·exact .inl fun hm => hh ⟨he, hm⟩
include hL in
theorem Zy0 (hnt : nt ≤ EXT) (hm : P.follows .mixedOrders = true) : Ztt P L nt (@Zsw) := by
 intro df w0 M0 S0 ρ0 id ops S a w K Q hk h hQ
 refine wp_region_any hm ?_
 have fin : ∀ (s : Nat), SOk ops s → ∀ K1 : AS → Prop, Zso P L nt (Zg6 ops s) S K1 → (∀ S' a' w', K1 S' → Zbd P nt df w0 M0 S0 ρ0 S' a' w' → ∀ l : Array Bool, l.size = ops.size → (∀ i, Zch l i ↔ i < s) → wpAny P .any ops Q (ops.size - s) l a' w') →
   wpAny P .any ops Q ops.size (Array.replicate ops.size false) a { w with drawn := w.drawn + 1 } := fun s ok K1 hk hK1 => by
  have h1 := Zny hL hnt df w0 M0 S0 ρ0 (Zg6 ops s) S a { w with drawn := w.drawn + 1 } _ (fun e a w => match e with | .normal => ∀ l : Array Bool, l.size = ops.size → (∀ i, Zch l i ↔ i < s) → wpAny P .any ops Q (ops.size - s) l a w | e => Q e a w) hk h.drawn
   (fun S' a' w' hk' h' => hK1 S' a' w' hk' h')
  rw [ZtR ok.le] at h1
  have h3 := Zx7 ok (Q := Q) s (Array.replicate ops.size false) (Array.replicate s false) a _ (by simp) (by simp) (fun i hi => ?_) (fun i hi hd => ?_) (fun j o hj => ?_) (by simp [List.count_replicate]) h1
  ·rw [show s + (ops.size - s) = ops.size by have := ok.le; omega] at h3
   exact h3
  ·unfold Zch; simp [Array.getD, Array.getElem_replicate]
  ·unfold Zch at hd; simp [Array.getD, Array.getElem_replicate] at hd
  ·exfalso; unfold Zch at hj; simp [Array.getD, Array.getElem_replicate] at hj
 rcases hk with hk | ⟨s, hs, hk⟩ | ⟨s, tl, hs, hk⟩
 ·exact Zny hL hnt df w0 M0 S0 ρ0 ops S a _ K Q hk h.drawn hQ
 ·obtain ⟨ok, ng⟩ := ZCE hs
  refine fin s ok _ hk fun S' a' w' hk' h' l hl hd => ?_
  rw [ZeH] at hk'
  have h2 := Zny hL hnt df w0 M0 S0 ρ0 (ZiZ ops s) S' a' w' K Q hk' h' hQ
  rw [ZuT] at h2
  refine ZBx ok ng _ l _ a' w' hl (by simp) (fun i hi => (hd i).2 hi) (fun i => ?_) h2
  rw [hd]
  unfold Zch
  constructor
  ·intro hh; omega
  ·intro hh; exfalso; simp [Array.getD, Array.getElem_replicate] at hh
 ·rw [Bool.and_eq_true] at hs
  have ok := Zwx hs.1
  have htl : tl = ZhU ops s := by simpa using hs.2
  subst htl
  refine fin s ok _ hk fun S' a' w' hk' h' l hl hd => ?_
  have hmem : ∀ i, i ∈ ZhU ops s ↔ s ≤ i ∧ i < ops.size := fun i => by
   unfold ZhU
   rw [List.mem_iff_getElem?]
   constructor
   ·rintro ⟨k, hk⟩
    rw [List.getElem?_drop] at hk
    have := List.getElem?_eq_some_iff.1 hk
    obtain ⟨h1, h2⟩ := this
    simp at h1 h2
    omega
   ·rintro ⟨h1, h2⟩
    refine ⟨i - s, ?_⟩
    rw [List.getElem?_drop, List.getElem?_range (by omega)]
    congr 1; omega
  have hlen : (ZhU ops s).length = ops.size - s := by unfold ZhU; simp
  rw [← hlen]
  refine ZAX hL hnt ok.dir hQ _ (ZhU ops s) l S' a' w' hl (fun i hi => ?_) ?_ (fun i hi => ((hmem i).1 hi).2) rfl hk' h'
  ·rw [hd, hmem]; omega
  ·unfold ZhU
   exact List.Nodup.sublist (List.drop_sublist _ _) List.nodup_range
end

theorem Zk.weak {P : Program} [Gl P] {f : FuncId} {args args' : List D} {bx bx' : Zbx} {K : D → Zbx → Prop} (r : Nat → Nat) (h : Zk P f args bx K) (hl : args'.length = args.length)
  (hw : WS r ⟨ZdD 0 args', bx'⟩ ⟨ZdD 0 args, bx⟩) : Zk P f args' bx' K :=
 ⟨h.1, fun w S0 M0 ZbQ ρ hv hr => h.2 w S0 M0 ZbQ ρ (hv.trans hl) (hr.weak hw)⟩
theorem Zk.weakRes {P : Program} [Gl P] {f : FuncId} {args : List D} {bx bx' : Zbx} {d' : D}
  (h : Zk P f args bx fun d b => ∃ r, WS r ⟨[(0, d)], b⟩ ⟨[(0, d')], bx'⟩) : Zk P f args bx fun d b => d = d' ∧ b = bx' :=
 ⟨h.1, fun w S0 M0 ZbQ ρ hv hr => (h.2 w S0 M0 ZbQ ρ hv hr).mono fun e w' ⟨v, d, b, St', ρ', h1, ⟨r, h2⟩, h4, h6⟩ =>
  ⟨v, d', bx', St', ρ', h1, ⟨rfl, rfl⟩, h4, h6.weak h2⟩⟩
structure AWP (P : Program) [Gl P] (nt : Nat) (c : Code) (Q : Exit → AS → Prop) (S : AS) : Prop where
 run : ∀ (df : List Deferred) (w0 : World) (M0 : Nat → Prop) (S0 : Z1) (ρ0 : Nat → Nat) (a : Act) (w : World), Zbd P nt df w0 M0 S0 ρ0 S a w → c.wp P (ZsG P nt df w0 M0 S0 ρ0 Q) a w
section
variable {P : Program} [Gl P] {nt : Nat} {c x y : Code} {Q Q' : Exit → AS → Prop} {S T : AS}
theorem AWP.weak (r : Nat → Nat) (hw : WS r S T) (h : AWP P nt c Q T) : AWP P nt c Q S :=
 ⟨fun df w0 M0 S0 ρ0 a w ⟨h1, h2, St, ρ, h3, h4⟩ => h.run df w0 M0 S0 ρ0 a w ⟨h1, h2, St, ρ, h3.weak hw, h4⟩⟩
theorem AWP.conv (hr : ∀ (df : List Deferred) (w0 : World) (M0 : Nat → Prop) (S0 : Z1) (ρ0 : Nat → Nat) (a : Act) (w : World), Zbd P nt df w0 M0 S0 ρ0 S a w → Zbd P nt df w0 M0 S0 ρ0 T a w) (h : AWP P nt c Q T) : AWP P nt c Q S :=
 ⟨fun df w0 M0 S0 ρ0 a w k => h.run df w0 M0 S0 ρ0 a w (hr df w0 M0 S0 ρ0 a w k)⟩
theorem AWP.thaw (i n k : Nat) {tk : Option (Nat × Nat)} {e : E} (hg : S.get i = .c tk e) (h : AWP P nt c Q (S.thaw i n k tk)) (hok : (Zm9 k tk e && Nat.blt i nt && Nat.blt n CAP && !Zg1 n) = true := by rfl) : AWP P nt c Q S := by
 simp only [Bool.and_eq_true, Nat.blt_eq, Bool.not_eq_true'] at hok
 exact h.conv fun df w0 M0 S0 ρ0 a w hr => hr.thaw hok.1.1.2 hg hok.1.1.1 hok.1.2 hok.2
theorem AWP.thawB (m j n k : Nat) {cs : List Cell} (hm : S.box m = some cs) (hj : cs[j]? = some (none, .nils)) (h : AWP P nt c Q (S.thawB m j n k cs)) (hok : (Zgp cs && !(Nat.beq m n) && Nat.blt n CAP && !Zg1 n) = true := by rfl) : AWP P nt c Q S := by
 simp only [Bool.and_eq_true, Nat.blt_eq, Bool.not_eq_true'] at hok
 exact h.conv fun df w0 M0 S0 ρ0 a w hr => hr.thawB hm (fun e => by subst e; have := hok.1.1.2; simp at this) hok.1.1.1 hj hok.1.2 hok.2
theorem AWP.trunc (n k l : Nat) {rows rows' : List (List E)} (hb : S.box n = some [(none, .ob (2 * k) rows)]) (hr : rows.take l = rows') (h : AWP P nt c Q (S.setBox n [(none, .ob (2 * k) rows')])) : AWP P nt c Q S := by
 subst hr
 exact h.conv fun df w0 M0 S0 ρ0 a w hr => hr.trunc hb
theorem AWP.force (h : ZdU S (AWP P nt c Q)) : AWP P nt c Q S := by rwa [ZeH] at h
theorem AWP.mono (h : AWP P nt c Q S) (hq : ∀ e T, Q e T → Q' e T) : AWP P nt c Q' S :=
 ⟨fun df w0 M0 S0 ρ0 a w hr => wp_mono (h.run df w0 M0 S0 ρ0 a w hr) fun e a' w' ⟨T, d1, w1, M1, S1, h1, h2⟩ => ⟨T, d1, w1, M1, S1, hq e T h1, h2⟩⟩
theorem AWP.seq (h : AWP P nt x (Zpj (AWP P nt y Q) Q) S) : AWP P nt (.seq x y) Q S :=
 ⟨fun df w0 M0 S0 ρ0 a w hr => wp_seq (wp_mono (h.run df w0 M0 S0 ρ0 a w hr) fun e a' w' ⟨T, d1, w1, M1, S1, hq, hb, h'⟩ => by
  cases e with
  | normal => exact wp_mono (hq.run _ _ _ _ _ _ _ h') fun _ _ _ => Zpr hb
  | exit id => exact ⟨T, d1, w1, M1, S1, hq, hb, h'⟩
  | goto l => exact ⟨T, d1, w1, M1, S1, hq, hb, h'⟩
  | ret => exact ⟨T, d1, w1, M1, S1, hq, hb, h'⟩
  | panic ch => exact ⟨T, d1, w1, M1, S1, hq, hb, h'⟩
  | outgrown => exact ⟨T, d1, w1, M1, S1, hq, hb, h'⟩)⟩
structure AWL (P : Program) [Gl P] (nt : Nat) (c : Code) (Q : Exit → AS → Prop) (S : AS) : Prop where
 run : ∀ (df : List Deferred) (w0 : World) (M0 : Nat → Prop) (S0 : Z1) (ρ0 : Nat → Nat) (a : Act) (w : World), Zbd P nt df w0 M0 S0 ρ0 S a w → ∀ (b : Frame) (k : List Item) (cs : List Frame),
  ∃ e a' w', ZsG P nt df w0 M0 S0 ρ0 Q e a' w' ∧ Arrives P (lone (b.at a (.code c :: .inLoop c :: k)) cs w) b k cs e a' w'
theorem AWL.weak (r : Nat → Nat) (hw : WS r S T) (h : AWL P nt c Q T) : AWL P nt c Q S :=
 ⟨fun df w0 M0 S0 ρ0 a w ⟨h1, h2, St, ρ, h3, h4⟩ => h.run df w0 M0 S0 ρ0 a w ⟨h1, h2, St, ρ, h3.weak hw, h4⟩⟩
theorem AWL.conv (hr : ∀ (df : List Deferred) (w0 : World) (M0 : Nat → Prop) (S0 : Z1) (ρ0 : Nat → Nat) (a : Act) (w : World), Zbd P nt df w0 M0 S0 ρ0 S a w → Zbd P nt df w0 M0 S0 ρ0 T a w) (h : AWL P nt c Q T) : AWL P nt c Q S :=
 ⟨fun df w0 M0 S0 ρ0 a w k => h.run df w0 M0 S0 ρ0 a w (hr df w0 M0 S0 ρ0 a w k)⟩
theorem AWL.thaw (i n k : Nat) {tk : Option (Nat × Nat)} {e : E} (hg : S.get i = .c tk e) (h : AWL P nt c Q (S.thaw i n k tk)) (hok : (Zm9 k tk e && Nat.blt i nt && Nat.blt n CAP && !Zg1 n) = true := by rfl) : AWL P nt c Q S := by
 simp only [Bool.and_eq_true, Nat.blt_eq, Bool.not_eq_true'] at hok
 exact h.conv fun df w0 M0 S0 ρ0 a w hr => hr.thaw hok.1.1.2 hg hok.1.1.1 hok.1.2 hok.2
theorem AWL.thawB (m j n k : Nat) {cs : List Cell} (hm : S.box m = some cs) (hj : cs[j]? = some (none, .nils)) (h : AWL P nt c Q (S.thawB m j n k cs)) (hok : (Zgp cs && !(Nat.beq m n) && Nat.blt n CAP && !Zg1 n) = true := by rfl) : AWL P nt c Q S := by
 simp only [Bool.and_eq_true, Nat.blt_eq, Bool.not_eq_true'] at hok
 exact h.conv fun df w0 M0 S0 ρ0 a w hr => hr.thawB hm (fun e => by subst e; have := hok.1.1.2; simp at this) hok.1.1.1 hj hok.1.2 hok.2
theorem AWL.force (h : ZdU S (AWL P nt c Q)) : AWL P nt c Q S := by rwa [ZeH] at h
theorem AWP.loop (h : AWL P nt c Q S) : AWP P nt (.loop c) Q S := by
 refine ⟨fun df w0 M0 S0 ρ0 a w hr b k cs => ?_⟩
 obtain ⟨e, a', w', hq, harr⟩ := h.run df w0 M0 S0 ρ0 a w hr b k cs
 exact ⟨e, a', w', hq, .of_steps (.one step_loop) harr⟩
theorem AWL.step (h : AWP P nt c (Zpj (AWL P nt c Q) Q) S) : AWL P nt c Q S := by
 refine ⟨fun df w0 M0 S0 ρ0 a w hr b k cs => ?_⟩
 obtain ⟨e, a₁, w₁, ⟨S₁, d1, w1, M1, S1, hq, hb, hr₁⟩, harr⟩ := h.run df w0 M0 S0 ρ0 a w hr b (.inLoop c :: k) cs
 cases e with
 | normal =>
  obtain ⟨e₂, a₂, w₂, hq₂, harr₂⟩ := hq.run d1 w1 M1 S1 ρ0 a₁ w₁ hr₁ b k cs
  exact ⟨e₂, a₂, w₂, Zpr hb hq₂, .of_steps (Steps.trans harr (.one step_inLoop)) harr₂⟩
 | exit id => exact ⟨_, a₁, w₁, ⟨S₁, d1, w1, M1, S1, hq, hb, hr₁⟩, .pass (x := .inLoop c) rfl (fun _ _ => .inl (by simp)) harr⟩
 | goto l => exact ⟨_, a₁, w₁, ⟨S₁, d1, w1, M1, S1, hq, hb, hr₁⟩, .pass (x := .inLoop c) rfl (fun _ _ => .inl (by simp)) harr⟩
 | ret => exact ⟨_, a₁, w₁, ⟨S₁, d1, w1, M1, S1, hq, hb, hr₁⟩, .pass (x := .inLoop c) rfl (fun _ _ => .inl (by simp)) harr⟩
 | panic ch => exact ⟨_, a₁, w₁, ⟨S₁, d1, w1, M1, S1, hq, hb, hr₁⟩, .pass (x := .inLoop c) rfl (fun _ _ => .inl (by simp)) harr⟩
 | outgrown => exact ⟨_, a₁, w₁, ⟨S₁, d1, w1, M1, S1, hq, hb, hr₁⟩, .pass (x := .inLoop c) rfl (fun _ _ => .inl (by simp)) harr⟩
theorem AWP.block {id : Nat} (h : AWP P nt c (Zo8 id Q) S) : AWP P nt (.block id c) Q S :=
 ⟨fun df w0 M0 S0 ρ0 a w hr => wp_block (wp_mono (h.run df w0 M0 S0 ρ0 a w hr) fun e a' w' ⟨S', d1, w1, M1, S1, hq, hb, h'⟩ => by
  cases e with
  | exit i =>
   simp only [Exit.inBlock, Zo8] at hq ⊢
   by_cases hi : i = id
   ·rw [if_pos hi] at hq; rw [if_pos hi]; exact ⟨S', d1, w1, M1, S1, hq, hb, h'⟩
   ·rw [if_neg hi] at hq; rw [if_neg hi]; exact ⟨S', d1, w1, M1, S1, hq, hb, h'⟩
  | normal => exact ⟨S', d1, w1, M1, S1, hq, hb, h'⟩
  | goto l => exact ⟨S', d1, w1, M1, S1, hq, hb, h'⟩
  | ret => exact ⟨S', d1, w1, M1, S1, hq, hb, h'⟩
  | panic ch => exact ⟨S', d1, w1, M1, S1, hq, hb, h'⟩
  | outgrown => exact ⟨S', d1, w1, M1, S1, hq, hb, h'⟩)⟩
def Zws (Q : Exit → AS → Prop) : Exit → AS → Prop
 | .goto _, _ => False
 | .normal, S => Q .normal S
 | .exit id, S => Q (.exit id) S
 | .ret, S => Q .ret S
 | .panic ch, S => Q (.panic ch) S
 | .outgrown, S => Q .outgrown S
theorem AWP.scope (h : AWP P nt c (Zws Q) S) : AWP P nt (.scope c) Q S :=
 ⟨fun df w0 M0 S0 ρ0 a w hr => wp_scope_straight (wp_mono (h.run df w0 M0 S0 ρ0 a w hr) fun e a' w' ⟨T, d1, w1, M1, S1, hq, hb, h'⟩ => by
  cases e with
  | goto l => exact hq.elim
  | normal => exact ⟨T, d1, w1, M1, S1, hq, hb, h'⟩
  | exit id => exact ⟨T, d1, w1, M1, S1, hq, hb, h'⟩
  | ret => exact ⟨T, d1, w1, M1, S1, hq, hb, h'⟩
  | panic ch => exact ⟨T, d1, w1, M1, S1, hq, hb, h'⟩
  | outgrown => exact ⟨T, d1, w1, M1, S1, hq, hb, h'⟩)⟩
theorem AWP.cut (M : AS → Prop) (h : AWP P nt x (Zpj M Q) S) (k : ∀ T, M T → AWP P nt y Q T) : AWP P nt (.seq x y) Q S :=
 AWP.seq (h.mono fun e T hq => by cases e <;> first | exact k T hq | exact hq)
def ZF6 (M : AS → Prop) : Exit → AS → Prop
 | .normal, T => M T
 | _, _ => False
theorem AWP.cutN (M : AS → Prop) (h : AWP P nt x (ZF6 M) S) (k : ∀ T, M T → Q .normal T) : AWP P nt x Q S :=
 h.mono fun e T hq => by cases e <;> first | exact k T hq | exact hq.elim
theorem Zyr {w0 : World} {M0 : Nat → Prop} {S0 : Z1} {a : Act} {w : World} {St : Z1} {ρ : Nat → Nat} (h3 : ZA P w0 M0 S0 S a.tmps w St ρ) {dst : Option Nat} {f : Operand} {args : List Operand} {K : AS → Prop} (hk : Zol P nt S dst f args K) :
  ∃ (gf : Nat) (vf vc : Array Value) (fn : Func), a.eval f = .func (.func gf) vf vc ∧ P.funcs[gf]? = some fn ∧ (fn.name == "runtime.NumGoroutine") = false ∧ fn.body.isNone = false := by
 unfold Zol at hk
 split at hk
 case h_2 => exact hk.elim
 rename_i g first cap hf
 obtain ⟨keep, nm, nw, hk⟩ := hk
 rw [ZeA] at hk
 split at hk
 case h_2 => exact hk.elim
 rename_i bx hbx
 obtain ⟨hd, hcall⟩ := hk
 rw [ZeA, ZhN] at hcall
 obtain ⟨vf, vc, hfv, _⟩ := Zsk h3 hf args
 obtain ⟨fn, h1, h2, h3⟩ := hcall.able
 exact ⟨g, vf, vc, fn, hfv, h1, h2, h3⟩
theorem AWP.rangeFunc {g : Operand} {ps : Array Nat} {assign body : Code} (h : ∀ l : Nat, Zol P nt S none g [.const (.func (.yield l) #[] #[])] (Q .normal)) : AWP P nt (.rangeFunc g ps assign body) Q S := by
 refine ⟨fun df w0 M0 S0 ρ0 a w ⟨hdef, hsize, St, ρ, h3, h4⟩ => wpIn_wide.1 (wpIn_rangeFunc (F := Fence.wide) (n := 1) fun fn _ => ?_)⟩
 obtain ⟨rec, hrec⟩ : ∃ rec : LoopState → Loop, rec = fun st => { state := st, pending := none, fn := fn, tmps := a.tmps, params := ps, assign := assign, body := body, defers := w.heap.size } := ⟨_, rfl⟩
 obtain ⟨W1, hW1⟩ : ∃ W1, (w.alloc (.deferred (some []))).alloc (.loop (rec .ready)) = W1 := ⟨_, rfl⟩
 have hL1 : W1.heap[w.heap.size + 1]? = some (.loop (rec .ready)) := by
  rw [← hW1]; have := World.alloc_heap_new (w.alloc (.deferred (some []))) (.loop (rec .ready)); rwa [World.size_alloc] at this
 have hK1 : W1.heap[w.heap.size]? = some (.deferred (some [])) := by
  rw [← hW1]; exact (Below.heap_alloc _ _ _ (by simp)).trans (World.alloc_heap_new w _)
 have hr0 : ZA P w0 M0 S0 S a.tmps W1 St ρ := by rw [← hW1]; exact (h3.alloc _).alloc _
 obtain ⟨hB, hr⟩ := hr0.fwd
 obtain ⟨gf, vf, vc, fn', hfv, hfn, hname, hbody⟩ := Zyr h3 (h 0)
 have hm : (#[.const (.func (.yield (w.heap.size + 1)) #[] #[])] : Array Operand).map a.eval = #[.func (.yield (w.heap.size + 1)) #[] #[]] := by simp [Act.eval]
 obtain ⟨o, ho, hod⟩ : ∃ o : Oper, o.op = .call { callee := .value g, args := #[.const (.func (.yield (w.heap.size + 1)) #[] #[])], argTypes := #[] } ∧ o.dst = none := ⟨{ (default : Oper) with op := .call { callee := .value g, args := #[.const (.func (.yield (w.heap.size + 1)) #[] #[])], argTypes := #[] }, dst := none }, rfl, rfl⟩
 have hstep : o.wp P a W1 (fun a' w' => ∃ S', Q .normal S' ∧ Zbd P nt df W1 (ZDh w0 M0 W1) St ρ0 S' a' w') (fun _ _ _ => False) :=
  ZoP (o := o) (K := Q .normal) ⟨hdef, hsize, St, ρ, hr, h4⟩ ho (by rw [hod]; exact h _) fun S' a' w' hk hr' => ⟨S', hk, hr'⟩
 have hrun : (execOp a.eval o).run P W1 = .ok (.enter gf (vf ++ #[.func (.yield (w.heap.size + 1)) #[] #[]] ++ vc)) W1 := by
  simp only [execOp, ho, resolve, hfv, hm, Deferred.ofValue, invoke, callFunc, Sem.run_bind, Sem.run_pure, Result.andThen_ok, run_program, hfn, hname, Bool.false_eq_true, if_false, hbody]
 unfold Oper.wp at hstep
 rw [hrun, Oper.upon_enter, hod] at hstep
 refine ⟨w.heap.size + 1, [ZwE w.heap.size], W1, { target := .fn (.func gf) vc, args := vf ++ #[.func (.yield (w.heap.size + 1)) #[] #[]] }, W1, gf, vf ++ #[.func (.yield (w.heap.size + 1)) #[] #[]] ++ vc, W1, ?_, ?_, ?_, ?_, ?_, ?_⟩
 ·rw [← hW1, hrec]; exact run_enterLoop_outer _ _ _ _ _
 ·simp only [resolve, rangeCall, hfv, hm, Deferred.ofValue, Sem.run_pure]
 ·exact fun _ _ => trivial
 ·simp only [invoke, callFunc, Sem.run_bind, Sem.run_pure, Result.andThen_ok, run_program, hfn, hname, Bool.false_eq_true, if_false, hbody]
 ·exact fun _ => Nat.le_refl _
 ·refine callsIn_wide.2 (hstep.mono ?_)
  rintro e w2 he
  cases e with
  | panicked c => exact he.elim
  | outgrown => obtain ⟨_, _, h⟩ := he; exact h.elim
  | returned v =>
   obtain ⟨S', hq, hdef2, hsize2, St', ρ', h5, h6⟩ := he
   have hlt1 : w.heap.size + 1 < W1.heap.size := Zfn hL1
   have hlt0 : w.heap.size < W1.heap.size := Zfn hK1
   have hL2 : w2.heap[w.heap.size + 1]? = some (.loop (rec .ready)) := (h5.old _ hlt1 (fun hm => hm.1 ⟨_, hL1, rfl⟩)).trans hL1
   have hK2 : w2.heap[w.heap.size]? = some (.deferred (some [])) := (h5.old _ hlt0 (fun hm => hm.1 ⟨_, hK1, rfl⟩)).trans hK1
   have h7 : ZA P w0 M0 S0 S' a.tmps (w2.putObj (w.heap.size + 1) (.loop { rec .ready with state := .exhausted })) St' ρ' :=
    (h5.back hB).putNd (Nat.le_trans h3.size (Nat.le_succ _)) ⟨_, hL2, rfl⟩ rfl
   have hK3 : (w2.putObj (w.heap.size + 1) (.loop { rec .ready with state := .exhausted })).heap[w.heap.size]? = some (.deferred (some [])) := (World.putObj_heap_other (by omega)).trans hK2
   obtain ⟨hB2, h8⟩ := h7.fwd
   refine ⟨none, _, ?_, S', ZwE w.heap.size :: df, _, _, _, hq, .step (.refl ..) hB2 h3.size (Zfn hK3) (fun hm => hm.1 ⟨_, hK3, rfl⟩) hK3, ?_, hsize, St', ρ', h8, h6⟩
   ·have := run_endLoop (P := P) hL2 (by rw [hrec]; simp)
    rw [this, hrec]
   ·show [ZwE w.heap.size] ++ a.defers = _; rw [hdef]; rfl
def node (Dr : ZqI) (P : Program) [Gl P] (L : Tab) (nt : Nat) : Code → (Exit → AS → Prop) → AS → Prop
 | .skip, Q, S => Q .normal S
 | .label _, Q, S => Q .normal S
 | .region _ ops draw, Q, S => if draw then Dr P L nt ops S (Q .normal) else ZlK P L nt ops ops.toList S (Q .normal)
 | .seq x y, Q, S => node Dr P L nt x (Zpj (AWP P nt y Q) Q) S
 | .cond c x y, Q, S =>
  match S.ev c with
  | .c _ (.v (.bool b)) => Zg0 b (AWP P nt x Q S) (AWP P nt y Q S)
  | _ => False
 | .block id c, Q, S => node Dr P L nt c (Zo8 id Q) S
 | .loop c, Q, S => AWL P nt c Q S
 | .exit id, Q, S => Q (.exit id) S
 | .ret, Q, S => Q .ret S
 | .rangeFunc g _ _ _, Q, S => ∀ l : Nat, Zol P nt S none g [.const (.func (.yield l) #[] #[])] (Q .normal)
 | _, _, _ => False
theorem AWP.node {Dr : ZqI} {L : Tab} (hL : TOk P L) (hnt : nt ≤ EXT) (hD : Ztt P L nt Dr) : ∀ (c : Code) (Q : Exit → AS → Prop) (S : AS), Am.node Dr P L nt c Q S → AWP P nt c Q S
 | .skip, Q, S, hk => ⟨fun df w0 M0 S0 ρ0 a w h => wp_skip (Zl3 ⟨S, hk, h⟩)⟩
 | .label l, Q, S, hk => ⟨fun df w0 M0 S0 ρ0 a w h => wp_label (Zl3 ⟨S, hk, h⟩)⟩
 | .exit id, Q, S, hk => ⟨fun df w0 M0 S0 ρ0 a w h => wp_exit (Zl3 ⟨S, hk, h⟩)⟩
 | .ret, Q, S, hk => ⟨fun df w0 M0 S0 ρ0 a w h => wp_ret (Zl3 ⟨S, hk, h⟩)⟩
 | .region id ops draw, Q, S, hk => ⟨fun df w0 M0 S0 ρ0 a w h => by
   have : awp Dr P L nt (.region id ops draw) Q S := hk
   exact wp_mono (ZhM hL hnt hD _ Q S a w this h) fun _ _ _ => Zl3⟩
 | .seq x y, Q, S, hk => AWP.seq (AWP.node hL hnt hD x _ S hk)
 | .cond c x y, Q, S, hk => ⟨fun df w0 M0 S0 ρ0 a w h => by
   simp only [Am.node] at hk
   split at hk
   ·rename_i tk b hc
    have hv : a.eval c = .bool b := by
     obtain ⟨_, _, St, ρ, h3, _⟩ := h
     have := ZaL h3 c
     rw [hc] at this
     exact (Zec (d := .c tk (.v (.bool b))) this rfl).1
    refine wp_cond hv ?_
    cases b with
    | true => exact AWP.run hk _ _ _ _ _ _ _ h
    | false => exact AWP.run hk _ _ _ _ _ _ _ h
   ·exact hk.elim⟩
 | .block id c, Q, S, hk => AWP.block (AWP.node hL hnt hD c _ S hk)
 | .loop c, Q, S, hk => AWP.loop hk
 | .rangeFunc .., Q, S, hk => AWP.rangeFunc hk
 | .scope _, Q, S, hk => hk.elim
 | .goto _, Q, S, hk => hk.elim
 | .refuse _, Q, S, hk => hk.elim
end
def Code.sub : Code → List Nat → Code
 | c, [] => c
 | .seq x y, i :: p => match i with | 0 => Code.sub x p | _ => Code.sub y p
 | .cond _ x y, i :: p => match i with | 0 => Code.sub x p | _ => Code.sub y p
 | .block _ c, _ :: p => Code.sub c p
 | .loop c, _ :: p => Code.sub c p
 | .scope c, _ :: p => Code.sub c p
 | c, _ => c
def Code.cont (P : Program) [Gl P] (nt : Nat) : Code → List Nat → (Exit → AS → Prop) → (Exit → AS → Prop)
 | _, [], Q => Q
 | .seq x y, i :: p, Q => match i with | 0 => Code.cont P nt x p (Zpj (AWP P nt y Q) Q) | _ => Code.cont P nt y p Q
 | .cond _ x y, i :: p, Q => match i with | 0 => Code.cont P nt x p Q | _ => Code.cont P nt y p Q
 | .block id c, _ :: p, Q => Code.cont P nt c p (Zo8 id Q)
 | .loop c, _ :: p, Q => Code.cont P nt c p (Zpj (AWL P nt c Q) Q)
 | .scope c, _ :: p, Q => Code.cont P nt c p (Zws Q)
 | _, _, Q => Q

def ZK (p : Prop) [Decidable p] : Option Unit := if p then some () else none
def ixI {α : Type} (l : List α) (i : Int) : Option α := if 0 ≤ i then l[i.toNat]? else none
def btI (s : ByteArray) (i : Int) : Option UInt8 := if 0 ≤ i then s[i.toNat]? else none
def slS (s : ByteArray) (l h : Int) : Option ByteArray := if 0 ≤ l ∧ l ≤ h ∧ h ≤ s.size then some (s.extract l.toNat h.toNat) else none
def slL {α : Type} (s : List α) (l h : Int) : Option (List α) := if 0 ≤ l ∧ l ≤ h ∧ h ≤ s.length then some ((s.take h.toNat).drop l.toNat) else none
theorem ZdG {xs bs all : List Nat} {U S : AS} (h1 : ZuA S xs = ZuA U xs) (h2 : ZuX S bs = ZuX U bs) (h3 : (Zx9 all S.tmps && Zxy all S.boxes) = true) : ck xs bs all U S := ⟨h1, h2, h3⟩
def Zff {α β : Type} [BEq α] (k : α) : List (α × β) → Option β
 | [] => none
 | p :: m => if (k == p.1) = true then some p.2 else Zff k m
def Zeh {α β : Type} [BEq α] (m : List (α × β)) (z : β) (k : α) : Option (β × Bool) := match Zff k m with | some v => some (v, true) | none => some (z, false)
def Zhl {α β : Type} [BEq α] : List (α × β) → α → β → List (α × β)
 | [], k, v => [(k, v)]
 | p :: m, k, v => if (k == p.1) = true then (k, v) :: m else p :: Zhl m k v
def ZdK {α β : Type} (ek : α → List E) (ev : β → List E) (p : α × β) : List E := ek p.1 ++ ev p.2
structure Zkv {α : Type} [BEq α] (ek : α → List E) : Prop where
 eq : ∀ a b, ZgT (ek a) (ek b) = some (a == b)
 one : ∀ a, (ek a).length = 1
theorem ZAZ {k : IntKind} : Zkv (fun x : Int => [E.v (.int k x)]) := ⟨fun a b => by simp [ZgT], fun _ => rfl⟩
theorem ZvF : Zkv (fun x : ByteArray => [E.v (.string x)]) := ⟨fun a b => by simp [ZgT], fun _ => rfl⟩
theorem ZtQ {α β : Type} [BEq α] {ek : α → List E} (hk : Zkv ek) {ev : β → List E} (p : α × β) : (ZdK ek ev p).take 1 = ek p.1 ∧ (ZdK ek ev p).drop 1 = ev p.2 := by
 unfold ZdK
 rw [← hk.one p.1]
 simp
theorem Zqh {α β : Type} [BEq α] {ek : α → List E} (hk : Zkv ek) {ev : β → List E} (k : α) : ∀ m : List (α × β), Zjm 1 (ek k) (m.map (ZdK ek ev)) = some ((Zff k m).map ev)
 | [] => rfl
 | p :: m => by
  obtain ⟨h1, h2⟩ := ZtQ hk (ev := ev) p
  simp only [List.map_cons, Zjm, h1, h2, hk.eq, Zff]
  cases hb : k == p.1 with
  | true => simp
  | false => simpa using Zqh hk k m
theorem Zqi {α β : Type} [BEq α] {ek : α → List E} (hk : Zkv ek) {ev : β → List E} (k : α) (v : β) : ∀ m : List (α × β), ZlO 1 (ek k) (ev v) (m.map (ZdK ek ev)) = some ((Zhl m k v).map (ZdK ek ev))
 | [] => rfl
 | p :: m => by
  obtain ⟨h1, h2⟩ := ZtQ hk (ev := ev) p
  simp only [List.map_cons, ZlO, h1, hk.eq, Zhl]
  cases hb : k == p.1 with
  | true => simp [ZdK]
  | false => simp [Zqi hk k v m]
theorem ZnT {α β : Type} [BEq α] {m : List (α × β)} {k : α} {v : β} {ek : α → List E} (hk : Zkv ek) {ev : β → List E} {cells : List E} (hw : WL cells (ev v)) {K : List (List E) → Prop} (h : K ((Zhl m k v).map (ZdK ek ev))) :
  ∃ val' rows', WL cells val' ∧ ZlO 1 (ek k) val' (m.map (ZdK ek ev)) = some rows' ∧ K rows' := ⟨ev v, _, hw, Zqi hk k v m, h⟩
theorem Zhd {α β : Type} [BEq α] {m : List (α × β)} {k : α} {ek : α → List E} (hk : Zkv ek) {ev : β → List E} {z : β} {r : β × Bool} (h : Zeh m z k = some r) {cells : List E} (hv : ev r.1 = cells) {n : Nat} (hn : ∀ x, (ev x).length = n) {zc : List E} {zero : Option (List E)} (hz : zero = some zc) (hzl : zc.length = n) (hzw : WL zc (ev z))
  {K : Bool → List E → Prop} (hK : K r.2 cells) :
  ∃ cells ok cells', Zjm 1 (ek k) (m.map (ZdK ek ev)) = some (bif ok then some cells else none) ∧ (ok = false → zero = some cells) ∧ cells.length = n ∧ WL cells cells' ∧ K ok cells' := by
 unfold Zeh at h
 cases hf : Zff k m with
 | some v =>
  rw [hf] at h
  injection h with h
  subst h
  exact ⟨ev v, true, cells, by rw [Zqh hk, hf]; rfl, fun h => (by cases h), hn v, (by rw [← hv]; exact WL.refl _), hK⟩
 | none =>
  rw [hf] at h
  injection h with h
  subst h
  exact ⟨zc, false, cells, by rw [Zqh hk, hf]; rfl, fun _ => hz, hzl, (by rw [← hv]; exact hzw), hK⟩
theorem bind_some {α β : Type} {a : Option α} {f : α → Option β} {r : β} (h : (a >>= f) = some r) : ∃ x, a = some x ∧ f x = some r := by
 cases a with
 | none => cases h
 | some x => exact ⟨x, rfl, h⟩
theorem Zy {p : Prop} [Decidable p] {β : Type} {f : Unit → Option β} {r : β} (h : (ZK p >>= f) = some r) : p ∧ f () = some r := by
 unfold ZK at h
 split at h
 ·rename_i hp; exact ⟨hp, h⟩
 ·cases h
theorem Zej {α β : Type} {l : List α} {i : Int} {f : α → Option β} {r : β} (h : (ixI l i >>= f) = some r) : ∃ x, 0 ≤ i ∧ l[i.toNat]? = some x ∧ f x = some r := by
 obtain ⟨x, hx, hf⟩ := bind_some h
 unfold ixI at hx
 split at hx
 ·exact ⟨x, by assumption, hx, hf⟩
 ·cases hx
theorem ZcB {β : Type} {s : ByteArray} {i : Int} {f : UInt8 → Option β} {r : β} (h : (btI s i >>= f) = some r) : ∃ x, 0 ≤ i ∧ s[i.toNat]? = some x ∧ f x = some r := by
 obtain ⟨x, hx, hf⟩ := bind_some h
 unfold btI at hx
 split at hx
 ·exact ⟨x, by assumption, hx, hf⟩
 ·cases hx
theorem ZfG {β : Type} {s : ByteArray} {l h : Int} {f : ByteArray → Option β} {r : β} (hh : (slS s l h >>= f) = some r) : ∃ t, 0 ≤ l ∧ l ≤ h ∧ h ≤ ((s.size : Nat) : Int) ∧ t = s.extract l.toNat h.toNat ∧ f t = some r := by
 obtain ⟨x, hx, hf⟩ := bind_some hh
 unfold slS at hx
 split at hx
 ·rename_i hc; injection hx with hx; exact ⟨x, hc.1, hc.2.1, hc.2.2, hx.symm, hf⟩
 ·cases hx
theorem ZyI {α β : Type} {s : List α} {l h : Int} {f : List α → Option β} {r : β} (hh : (slL s l h >>= f) = some r) : ∃ t, 0 ≤ l ∧ l ≤ h ∧ h ≤ ((s.length : Nat) : Int) ∧ t = (s.take h.toNat).drop l.toNat ∧ f t = some r := by
 obtain ⟨x, hx, hf⟩ := bind_some hh
 unfold slL at hx
 split at hx
 ·rename_i hc; injection hx with hx; exact ⟨x, hc.1, hc.2.1, hc.2.2, hx.symm, hf⟩
 ·cases hx
theorem Zg {α : Type} {x r : α} (h : some x = some r) : x = r := Option.some.inj h
theorem Zya {k n : Nat} (h : decide (((k : Nat) : Int) < ((n : Nat) : Int)) = true) : k < n := by simpa using h
theorem ZBd {b : Bool} {α : Type} {x y r : α} (hb : b = true) (h : (if b = true then x else y) = r) : x = r := by rwa [if_pos hb] at h
theorem ZBi {b : Bool} {α : Type} {x y r : α} (hb : b = false) (h : (if b = true then x else y) = r) : y = r := by subst hb; simpa using h
theorem Zj {b : Bool} {A B : Prop} {α : Type} {x y : Option α} {r : α} (h : (if b = true then x else y) = some r) (h1 : b = true → x = some r → A) (h2 : b = false → y = some r → B) : Zg0 b A B := by
 cases b
 ·exact h2 rfl (by simpa using h)
 ·exact h1 rfl (by simpa using h)
theorem Zl {b : Bool} {A B : Prop} (want : Bool) (h1 : b = true → (match want with | true => A | false => B)) (h2 : b = false → (match want with | true => B | false => A)) : Zis b want A B := by
 cases b <;> cases want
 ·exact h2 rfl
 ·exact h2 rfl
 ·exact h1 rfl
 ·exact h1 rfl
theorem ZS {α : Type} {l pre post : List α} {k : Nat} {A B : Prop} (h : l = pre ++ post) (hk : k = pre.length) (h1 : ∀ x post', post = x :: post' → l[k]? = some x → k < l.length → A) (h2 : post = [] → B) :
  Zg0 (decide (((k : Nat) : Int) < ((l.length : Nat) : Int))) A B := by
 subst hk
 cases post with
 | nil =>
  have : decide (((pre.length : Nat) : Int) < ((l.length : Nat) : Int)) = false := by subst h; simp
  rw [this]; exact h2 rfl
 | cons x post' =>
  have hlt : pre.length < l.length := by subst h; simp
  have : decide (((pre.length : Nat) : Int) < ((l.length : Nat) : Int)) = true := by simpa using hlt
  rw [this]; exact h1 x post' rfl (by subst h; simp) hlt
theorem ZbW {α : Type} {f : α → List E} {n : Nat} (l : List α) (h : ∀ x, (f x).length = n) : ∀ row ∈ l.map f, row.length = n := by
 intro row hr
 obtain ⟨x, _, rfl⟩ := List.mem_map.1 hr
 exact h x
theorem ZyD {n : Nat} : ∀ row ∈ ([] : List (List E)), row.length = n := fun _ h => absurd h List.not_mem_nil
theorem Zau {α : Type} {f : α → List E} {l : List α} {k : Nat} {x : α} {row : List E} (hc : f x = row) (h : l[k]? = some x) : (l.map f)[((k : Nat) : Int).toNat]? = some row := by
 show (l.map f)[k]? = some row
 rw [List.getElem?_map, h, Option.map_some, hc]
theorem Zdx {α : Type} {f : α → List E} {l : List α} {i : Int} {x : α} {row : List E} (hc : f x = row) (h : l[i.toNat]? = some x) : (l.map f)[i.toNat]? = some row := by
 rw [List.getElem?_map, h, Option.map_some, hc]
theorem ZZ {n k : Nat} (h : n ≤ maxLen) (hk : k < n) : IntKind.i64.wrap (((k : Nat) : Int) + 1) = (((k + 1 : Nat) : Nat) : Int) := by
 have e : IntKind.i64.wrap ((k : Int) + 1) = (k : Int) + 1 := by
  exact IntWalk.i64_in ((k : Int) + 1) ⟨by omega, by unfold maxLen at h; omega⟩
 rw [e]; rfl
theorem Zc8 {k : Nat} (hk : k + 1 ≤ 9223372036854775807) : IntKind.i64.wrap (((k : Nat) : Int) + 1) = (((k + 1 : Nat) : Nat) : Int) := by
 have e : IntKind.i64.wrap ((k : Int) + 1) = (k : Int) + 1 := by
  exact IntWalk.i64_in ((k : Int) + 1) ⟨by omega, by omega⟩
 rw [e]; rfl
def rn (l : List (Nat × Nat)) (n : Nat) : Nat := (ZL l n).getD n
section
variable {r : Nat → Nat} {S T : AS} {e e' : E} {tk : Option (Nat × Nat)}
theorem ZGW {x y : Bool} (h : x = y) : WE (.v (.bool x)) (.v (.bool y)) := h ▸ .refl _
theorem Zdd {k : IntKind} {x y : Int} (h : x = y) : WE (.v (.int k x)) (.v (.int k y)) := h ▸ .refl _
theorem Zc : WTs r S [] := trivial
theorem Zd {i : Nat} {d : D} {l : List (Nat × D)} (h : WD r (S.get i) d) (k : WTs r S l) : WTs r S ((i, d) :: l) := ⟨h, k⟩
theorem Zs (k : WE e e') : WD r (.c tk e) (.c none e') := ⟨by cases tk <;> trivial, .inl k⟩
theorem Zay {s t q : Nat} (h : r s = t) (k : WE e e') : WD r (.c (some (s, q)) e) (.c (some (t, q)) e') := ⟨⟨h, rfl⟩, .inl k⟩
theorem ZkZ {t q : Nat} : WD r (.c none .nils) (.c (some (t, q)) (.sl [])) := ⟨trivial, .inl .nil⟩
theorem Zt {a b : List E} (h : WL a b) : WD r (.agg a) (.agg b) := h
theorem ZdE {a b : List X} (h : WXs a b) : WD r (.tup a) (.tup b) := h
theorem ZDu {n o : Nat} : WD r (.ptr n o) (.ptr n o) := ⟨rfl, rfl⟩
theorem Zo : WL [] [] := trivial
theorem ZaD {x y : E} {xs ys : List E} (h : WE x y) (k : WL xs ys) : WL (x :: xs) (y :: ys) := ⟨h, k⟩
theorem ZdF : WXs [] [] := trivial
theorem Zc6 {xs ys : List X} (h : WE e e') (k : WXs xs ys) : WXs (.c e :: xs) (.c e' :: ys) := ⟨h, k⟩
theorem Zzi {a b : List E} {xs ys : List X} (h : WL a b) (k : WXs xs ys) : WXs (.agg a :: xs) (.agg b :: ys) := ⟨h, k⟩
theorem Zh : WCs r [] [] := trivial
theorem Zew {xs ys : List Cell} (h : WE e e') (k : WCs r xs ys) : WCs r ((tk, e) :: xs) ((none, e') :: ys) := ⟨⟨by cases tk <;> trivial, .inl h⟩, k⟩
theorem ZsY {s t q : Nat} {xs ys : List Cell} (h0 : r s = t) (h : WE e e') (k : WCs r xs ys) : WCs r ((some (s, q), e) :: xs) ((some (t, q), e') :: ys) := ⟨⟨⟨h0, rfl⟩, .inl h⟩, k⟩
theorem Zmw {t q : Nat} {xs ys : List Cell} (k : WCs r xs ys) : WCs r ((none, .nils) :: xs) ((some (t, q), .sl []) :: ys) := ⟨⟨trivial, .inl .nil⟩, k⟩
theorem Zb : WBs r S [] := trivial
theorem Zf {n : Nat} {ds cs : List Cell} {l : Zbx} (h0 : S.box n = some ds) (h : WCs r ds cs) (k : WBs r S l) : WBs r S ((n, cs) :: l) := ⟨by unfold WB; rw [h0]; exact h, k⟩
theorem Zaw {α : Type} {f : α → List E} : WE (.sl []) (.sl (([] : List α).map f)) := .refl _
theorem Zcm {α : Type} {f : α → List E} {row : List E} {rows : List (List E)} {x : α} {xs : List α} (h : WL row (f x)) (k : WE (.sl rows) (.sl (xs.map f))) : WE (.sl (row :: rows)) (.sl ((x :: xs).map f)) := by
 have := WE.app (WE.row h) k
 exact this
theorem Zea {row a b : List E} (h : b = a) (k : WL row a) : WL row b := h ▸ k
end
def ZbX (d' : D) (bx' : Zbx) (d : D) (b : Zbx) : Prop := ∃ r, WS r ⟨[(0, d)], b⟩ ⟨[(0, d')], bx'⟩
def Zq (fn : Func) : Code := fn.body.getD .skip
theorem enter {P : Program} [Gl P] {L : Tab} (hL : TOk P L) {f : FuncId} {fn : Func} (hf : P.funcs[f]? = some fn) (hb : fn.body.isSome = true) (hname : (fn.name == "runtime.NumGoroutine") = false)
  {args : List D} {bx bx' : Zbx} {d' : D} (hargs : args.length ≤ fn.ntmps)
  (hk : AWP P fn.ntmps (Zq fn) (ZbS L fn.results (ZbX d' bx')) ⟨ZdD 0 args, bx⟩) : Zk P f args bx fun d b => d = d' ∧ b = bx' := by
 refine Zk.weakRes ?_
 obtain ⟨c, hc⟩ := Option.isSome_iff_exists.1 hb
 have hbo : Zq fn = c := by unfold Zq; rw [hc]; rfl
 rw [hbo] at hk
 exact ZAY hL hf hc hname hargs hk.run
def Zd6 (G G' : Prop) : Prop := G' → G
theorem Zd6.side {A B G' : Prop} (a : A) (r : Zd6 B G') : Zd6 (A ∧ B) G' := fun g => ⟨a, r g⟩
theorem Zd6.done {G : Prop} : Zd6 G G := id
theorem Zd6.free {α β : Type} {A B C : α → β → Prop} {G' : Prop} {v : α} {s : β} (a : A v s) (b : B v s) (c : Zd6 (C v s) G') : Zd6 (∃ v s, A v s ∧ B v s ∧ C v s) G' := fun g => ⟨v, s, a, b, c g⟩
theorem st {G G' : Prop} (h : G') (s : Zd6 G G' := by
  (repeat (first | ((conv => (arg 1; whnf)); (with_reducible apply Zd6.side); (focus (first | exact Eq.refl _ | exact trivial | (with_reducible assumption) | (with_reducible exact Int.natCast_nonneg _) | exact Nat.le_of_ble_eq_true (Eq.refl true) | exact ZdG (Eq.refl _) (Eq.refl _) (Eq.refl _) | decide)))))
  (conv => (arg 1; whnf))
  exact Zd6.done) : G := s h
theorem sr {A G G' : Prop} (e : A) (h : G') (s : A → Zd6 G G' := by
  intro e
  (repeat (first | ((conv => (arg 1; whnf)); (with_reducible apply Zd6.side); (focus (first | exact Eq.refl _ | exact trivial | (with_reducible assumption) | (with_reducible exact Int.natCast_nonneg _) | exact Nat.le_of_ble_eq_true (Eq.refl true) | exact ZdG (Eq.refl _) (Eq.refl _) (Eq.refl _) | decide))) | ((conv => (arg 1; whnf)); rw [e])))
  (conv => (arg 1; whnf))
  exact Zd6.done) : G := s e h
theorem dp {G G' : Prop} (h : G') (s : Zd6 G G' := by
  (repeat (first | ((conv => (arg 1; whnf)); (with_reducible apply Zd6.side); (focus (first | exact Eq.refl _ | exact trivial | (with_reducible assumption) | (with_reducible exact Int.natCast_nonneg _) | exact Nat.le_of_ble_eq_true (Eq.refl true) | exact ZdG (Eq.refl _) (Eq.refl _) (Eq.refl _) | decide)))))
  (conv => (arg 1; whnf))
  with_reducible apply Zd6.free
  (focus (((repeat (first | ((conv => whnf); (with_reducible refine And.intro ?_ ?_); (focus (first | exact Eq.refl _ | exact trivial | (with_reducible assumption) | (with_reducible exact Int.natCast_nonneg _) | exact Nat.le_of_ble_eq_true (Eq.refl true) | exact ZdG (Eq.refl _) (Eq.refl _) (Eq.refl _) | decide))))); (conv => whnf)) <;> (exact rfl)))
  (focus exact rfl)
  (conv => (arg 1; whnf))
  exact Zd6.done) : G := s h
theorem dr {A G G' : Prop} (e : A) (h : G') (s : A → Zd6 G G' := by
  intro e
  (repeat (first | ((conv => (arg 1; whnf)); (with_reducible apply Zd6.side); (focus (first | exact Eq.refl _ | exact trivial | (with_reducible assumption) | (with_reducible exact Int.natCast_nonneg _) | exact Nat.le_of_ble_eq_true (Eq.refl true) | exact ZdG (Eq.refl _) (Eq.refl _) (Eq.refl _) | decide)))))
  (conv => (arg 1; whnf))
  with_reducible apply Zd6.free
  (focus ((((repeat (first | ((conv => whnf); (with_reducible refine And.intro ?_ ?_); (focus (first | exact Eq.refl _ | exact trivial | (with_reducible assumption) | (with_reducible exact Int.natCast_nonneg _) | exact Nat.le_of_ble_eq_true (Eq.refl true) | exact ZdG (Eq.refl _) (Eq.refl _) (Eq.refl _) | decide))))); (conv => whnf)) <;> (rw [e]) <;> ((repeat (first | ((conv => whnf); (with_reducible refine And.intro ?_ ?_); (focus (first | exact Eq.refl _ | exact trivial | (with_reducible assumption) | (with_reducible exact Int.natCast_nonneg _) | exact Nat.le_of_ble_eq_true (Eq.refl true) | exact ZdG (Eq.refl _) (Eq.refl _) (Eq.refl _) | decide))))); (conv => whnf)) <;> (exact rfl))))
  (focus exact rfl)
  (conv => (arg 1; whnf))
  exact Zd6.done) : G := s e h
theorem dl {G G' : Prop} (h : G') (s : Zd6 G G' := by
  (repeat (first | ((conv => (arg 1; whnf)); (with_reducible apply Zd6.side); (focus (first | exact Eq.refl _ | exact trivial | (with_reducible assumption) | (with_reducible exact Int.natCast_nonneg _) | exact Nat.le_of_ble_eq_true (Eq.refl true) | exact ZdG (Eq.refl _) (Eq.refl _) (Eq.refl _) | decide)))))
  (conv => (arg 1; whnf))
  with_reducible apply Zd6.free
  (focus ((((repeat (first | ((conv => whnf); (with_reducible refine And.intro ?_ ?_); (focus (first | exact Eq.refl _ | exact trivial | (with_reducible assumption) | (with_reducible exact Int.natCast_nonneg _) | exact Nat.le_of_ble_eq_true (Eq.refl true) | exact ZdG (Eq.refl _) (Eq.refl _) (Eq.refl _) | decide))))); (conv => whnf)) <;> (intro hlen0; (try rw [List.length_map])) <;> ((repeat (first | ((conv => whnf); (with_reducible refine And.intro ?_ ?_); (focus (first | exact Eq.refl _ | exact trivial | (with_reducible assumption) | (with_reducible exact Int.natCast_nonneg _) | exact Nat.le_of_ble_eq_true (Eq.refl true) | exact ZdG (Eq.refl _) (Eq.refl _) (Eq.refl _) | decide))))); (conv => whnf)) <;> (exact rfl))))
  (focus exact rfl)
  (conv => (arg 1; whnf))
  exact Zd6.done) : G := s h
theorem da {A G G' : Prop} (e : A) (h : G') (s : A → Zd6 G G' := by
  intro e
  (repeat (first | ((conv => (arg 1; whnf)); (with_reducible apply Zd6.side); (focus (first | exact Eq.refl _ | exact trivial | (with_reducible assumption) | (with_reducible exact Int.natCast_nonneg _) | exact Nat.le_of_ble_eq_true (Eq.refl true) | exact ZdG (Eq.refl _) (Eq.refl _) (Eq.refl _) | decide)))))
  (conv => (arg 1; whnf))
  with_reducible apply Zd6.free
  (focus ((((repeat (first | ((conv => whnf); (with_reducible refine And.intro ?_ ?_); (focus (first | exact Eq.refl _ | exact trivial | (with_reducible assumption) | (with_reducible exact Int.natCast_nonneg _) | exact Nat.le_of_ble_eq_true (Eq.refl true) | exact ZdG (Eq.refl _) (Eq.refl _) (Eq.refl _) | decide))))); (conv => whnf)) <;> (refine And.intro e ?_) <;> ((repeat (first | ((conv => whnf); (with_reducible refine And.intro ?_ ?_); (focus (first | exact Eq.refl _ | exact trivial | (with_reducible assumption) | (with_reducible exact Int.natCast_nonneg _) | exact Nat.le_of_ble_eq_true (Eq.refl true) | exact ZdG (Eq.refl _) (Eq.refl _) (Eq.refl _) | decide))))); (conv => whnf)) <;> (exact rfl))))
  (focus exact rfl)
  (conv => (arg 1; whnf))
  exact Zd6.done) : G := s e h
theorem de {A G G' : Prop} (e : A) (h : G') (s : A → Zd6 G G' := by
  intro e
  (repeat (first | ((conv => (arg 1; whnf)); (with_reducible apply Zd6.side); (focus (first | exact Eq.refl _ | exact trivial | (with_reducible assumption) | (with_reducible exact Int.natCast_nonneg _) | exact Nat.le_of_ble_eq_true (Eq.refl true) | exact ZdG (Eq.refl _) (Eq.refl _) (Eq.refl _) | decide)))))
  (conv => (arg 1; whnf))
  with_reducible apply Zd6.free
  (focus ((((repeat (first | ((conv => whnf); (with_reducible refine And.intro ?_ ?_); (focus (first | exact Eq.refl _ | exact trivial | (with_reducible assumption) | (with_reducible exact Int.natCast_nonneg _) | exact Nat.le_of_ble_eq_true (Eq.refl true) | exact ZdG (Eq.refl _) (Eq.refl _) (Eq.refl _) | decide))))); (conv => whnf)) <;> (refine Exists.intro _ (And.intro e ?_)) <;> ((repeat (first | ((conv => whnf); (with_reducible refine And.intro ?_ ?_); (focus (first | exact Eq.refl _ | exact trivial | (with_reducible assumption) | (with_reducible exact Int.natCast_nonneg _) | exact Nat.le_of_ble_eq_true (Eq.refl true) | exact ZdG (Eq.refl _) (Eq.refl _) (Eq.refl _) | decide))))); (conv => whnf)) <;> (exact rfl))))
  (focus exact rfl)
  (conv => (arg 1; whnf))
  exact Zd6.done) : G := s e h
theorem s3 {A B C G G' : Prop} (a : A) (b : B) (c : C) (h : G') (s : A → B → C → Zd6 G G' := by
  intro a b c
  (repeat (first | ((conv => (arg 1; whnf)); (with_reducible apply Zd6.side); (focus (first | exact Eq.refl _ | exact trivial | (with_reducible assumption) | (with_reducible exact Int.natCast_nonneg _) | exact Nat.le_of_ble_eq_true (Eq.refl true) | exact ZdG (Eq.refl _) (Eq.refl _) (Eq.refl _) | decide))) | ((with_reducible apply Zd6.side); (focus (first | exact a | exact b | exact c)))))
  exact Zd6.done) : G := s a b c h
theorem sa {A B G G' : Prop} (a : A) (b : B) (h : G') (s : A → B → Zd6 G G' := by
  intro a b
  (repeat (first | ((conv => (arg 1; whnf)); (with_reducible apply Zd6.side); (focus (first | exact Eq.refl _ | exact trivial | (with_reducible assumption) | (with_reducible exact Int.natCast_nonneg _) | exact Nat.le_of_ble_eq_true (Eq.refl true) | exact ZdG (Eq.refl _) (Eq.refl _) (Eq.refl _) | decide))) | ((with_reducible apply Zd6.side); (focus (first | exact a _ | exact ZyD | (simp only [List.length_map, List.length_set]; exact Nat.le_refl _) | (have h := b; simp only [List.length_map, List.length_append, List.length_cons, List.length_nil, Nat.zero_add] at h ⊢; first | exact h | (unfold maxLen; omega) | omega))))))
  exact Zd6.done) : G := s a b h
theorem e3 {α β γ : Type} {K : List α → List β → List γ → Prop} (h : K [] [] []) : ∃ a b c, K a b c := ⟨[], [], [], h⟩
theorem cm {P : Program} [Gl P] {f : FuncId} {args : List D} {bx b0 : Zbx} {d0 : D} {K : D → Zbx → Prop} (h : Zk P f args bx fun d b => d = d0 ∧ b = b0) (k : K d0 b0) : Zk P f args bx K :=
 Zk.mono h fun d b hh => by obtain ⟨rfl, rfl⟩ := hh; exact k
theorem ift {A : Prop} {b : Bool} {α : Type} {x y r : α} (a : A) (h : (if b = true then x else y) = r) (hb : A → b = true := by intro a; first | assumption | exact Eq.refl _ | simp only [a, Bool.and_true, Bool.true_and, Bool.and_false, Bool.false_and, Bool.or_true, Bool.true_or, Bool.or_false, Bool.false_or, Bool.not_true, Bool.not_false, cond_true, cond_false, List.length_map]) : x = r := ZBd (hb a) h
theorem ife {A : Prop} {b : Bool} {α : Type} {x y r : α} (a : A) (h : (if b = true then x else y) = r) (hb : A → b = false := by intro a; first | assumption | exact Eq.refl _ | simp only [a, Bool.and_true, Bool.true_and, Bool.and_false, Bool.false_and, Bool.or_true, Bool.true_or, Bool.or_false, Bool.false_or, Bool.not_true, Bool.not_false, cond_true, cond_false, List.length_map]) : y = r := ZBi (hb a) h
theorem web {A : Prop} {x y : Bool} (a : A) (h : A → x = y := by intro a; first | exact Eq.refl _ | simp only [a, Bool.and_true, Bool.true_and, Bool.and_false, Bool.false_and, Bool.or_true, Bool.true_or, Bool.or_false, Bool.false_or, Bool.not_true, Bool.not_false, cond_true, cond_false, List.length_map]) : WE (.v (.bool x)) (.v (.bool y)) := ZGW (h a)
section
variable {r : Nat → Nat} {S T : AS} {e : E} {tk : Option (Nat × Nat)}
theorem tc {i : Nat} {l : List (Nat × D)} (k : WTs r S l) (h : WD r (S.get i) (.c none e) := by exact Zs (WE.refl _)) : WTs r S ((i, .c none e) :: l) := ⟨h, k⟩
theorem tp {i n o : Nat} {l : List (Nat × D)} (k : WTs r S l) (h : WD r (S.get i) (.ptr n o) := by exact ZDu) : WTs r S ((i, .ptr n o) :: l) := ⟨h, k⟩
theorem lc {xs ys : List E} (k : WL xs ys) : WL (e :: xs) (e :: ys) := ⟨.refl _, k⟩
theorem cc {xs ys : List Cell} (k : WCs r xs ys) : WCs r ((tk, e) :: xs) ((none, e) :: ys) := Zew (.refl _) k
theorem wx (h : WS (rn []) S T) : ∃ r, WS r S T := ⟨_, h⟩
end
theorem ZaH {n a b : Nat} (h : a = b) : WE (.rs n a) (.rs n b) := h ▸ WE.refl _
theorem Ztf {α : Type} {X : List α} {v : Nat} {x : α} (h : X[v]? = some x) : ((v : Nat) : Int) < ((X.length : Nat) : Int) := by
 have := (List.getElem?_eq_some_iff.1 h).1; omega
theorem Ztj {α : Type} {X : List α} {i : Int} {x : α} (h0 : 0 ≤ i) (h : X[i.toNat]? = some x) : i < ((X.length : Nat) : Int) := by
 have := (List.getElem?_eq_some_iff.1 h).1; omega
theorem ZDd {α : Type} {f : α → List E} {X : List α} {i : Nat} {row : List E} {v : α} (h : WL row (f v)) : WE (.sl ((X.map f).set i row)) (.sl ((X.set i v).map f)) := by
 refine WE.rows (by simp) fun k ra rb ha hb => ?_
 by_cases hik : i = k
 ·subst hik
  have hl : i < X.length := by
   have := (List.getElem?_eq_some_iff.1 ha).1
   simpa using this
  rw [List.getElem?_set_self (by simpa using hl)] at ha
  rw [List.getElem?_map, List.getElem?_set_self hl] at hb
  simp only [Option.map_some, Option.some.injEq] at ha hb
  subst ha hb
  exact h
 ·rw [List.getElem?_set_ne hik] at ha
  rw [List.getElem?_map, List.getElem?_set_ne hik, ← List.getElem?_map] at hb
  rw [ha] at hb
  injection hb with hb
  subst hb
  exact WL.refl _
theorem Zv6 {α : Type} {f : α → List E} {X Y : List α} {l : Nat} (h : l = X.length) : (X.map f).take l ++ Y.map f = (X ++ Y).map f := by
 subst h
 rw [List.map_append]
 congr 1
 exact List.take_of_length_le (by simp)
theorem ZvD {α β : Type} {X Y : List α} {Z : List β} {l : Nat} (h : l = X.length) (hz : Z.length = Y.length) : l + Z.length = (X ++ Y).length := by subst h; rw [List.length_append, hz]
theorem ZEo {α : Type} {g : α → List E} {s t : List α} {h : Int} (ht : t = (s.take h.toNat).drop ((0 : Nat) : Int).toNat) : (s.map g).take h.toNat = t.map g := by
 rw [ht]
 show (s.map g).take h.toNat = (s.take h.toNat).map g
 rw [List.map_take]
theorem ZB1 {α : Type} {s t : List α} {h : Int} (h3 : h ≤ ((s.length : Nat) : Int)) (ht : t = (s.take h.toNat).drop ((0 : Nat) : Int).toNat) : h.toNat = t.length := by
 rw [ht]
 show h.toNat = (s.take h.toNat).length
 rw [List.length_take]; omega

theorem CallsA.of_calls {P : Program} [Gl P] {f : FuncId} {args : List D} {K : D → Prop} (hc : ZqH P f)
  (h : ∀ (w : World) (St : Z1) (ρ : Nat → Nat) (ZbQ : Array Value), ZbQ.size = args.length → (∀ i, Zdj w St ρ ((⟨ZdD 0 args, []⟩ : AS).get i) (ZbQ.getD i undef)) → (∀ b o, St b o → b < w.heap.size) → Zjr P w St →
   Calls P f ZbQ w fun e w' => ∃ x, e = .returned x ∧ x.oneCell' = true ∧ K (.c none (.v x)) ∧ Below w.heap.size w w') : CallsA P f args K := by
 refine ⟨hc, fun w S0 M0 ZbQ ρ hv hr => ?_⟩
 refine (h w S0 ρ ZbQ hv (fun i => hr.tmp i) hr.lt hr.glob).mono ?_
 rintro e w' ⟨x, rfl, ho, hk, bel⟩
 have hno : ∀ {t k : Nat} {e : E} {v : Value}, ¬ Zbg (⟨[(0, .c none (.v x))], []⟩ : AS) #[x] w' ρ t k e v := by
  rintro t k e v (⟨i, hi, _⟩ | ⟨n, cs, j, hb, _⟩)
  ·simp only [AS.get, ZL] at hi
   split at hi <;> simp at hi
  ·simp [AS.box, ZL] at hb
 refine ⟨x, .c none (.v x), [], S0, ρ, rfl, hk, fun _ _ _ => ⟨rfl, rfl⟩, ?_⟩
 exact { glob := hr.glob, os := bel.os, tape := bel.tape, output := bel.output, size := bel.size, old := fun b hb _ => bel.block b hb
         stay := fun b o hs => bel.cell (p := ⟨b, o, none⟩) (hr.lt b o hs), up := fun _ _ h => h, dn := fun _ _ h _ => .inl h, lt := fun b o hs => Nat.lt_of_lt_of_le (hr.lt b o hs) bel.size
         tmp := fun i => by
           simp only [AS.get, ZL]
           split
           · rename_i h0; subst h0; exact .e _ _ (.v x ho)
           · exact trivial
         nm := fun n cs hb => by simp [AS.box, ZL] at hb
         box := fun n cs hb => by simp [AS.box, ZL] at hb, inj := fun n m cs ds hb => by simp [AS.box, ZL] at hb
         own := fun t k e v hh => (hno hh).elim, apart := fun t k e v t' k' e' v' hh => (hno hh).elim, ownbox := fun t k e v n cs hh => (hno hh).elim }
def D.bare : D → Bool
 | .c (some _) _ => false
 | .ptr _ _ => false
 | .ept _ _ _ _ => false
 | _ => true
theorem CallsA.of_callsD {P : Program} [Gl P] {f : FuncId} {args : List D} {K : D → Prop} (hc : ZqH P f)
  (h : ∀ (w : World) (St : Z1) (ρ : Nat → Nat) (ZbQ : Array Value), ZbQ.size = args.length → (∀ i, Zdj w St ρ ((⟨ZdD 0 args, []⟩ : AS).get i) (ZbQ.getD i undef)) → (∀ b o, St b o → b < w.heap.size) → Zjr P w St →
   Calls P f ZbQ w fun e w' => ∃ x r, e = .returned x ∧ Zdj w' (fun b o => St b o ∨ (w.heap.size ≤ b ∧ b < w'.heap.size)) ρ r x ∧ r.bare = true ∧ K r ∧ Below w.heap.size w w') : CallsA P f args K := by
 refine ⟨hc, fun w S0 M0 ZbQ ρ hv hr => ?_⟩
 refine (h w S0 ρ ZbQ hv (fun i => hr.tmp i) hr.lt hr.glob).mono ?_
 rintro e w' ⟨x, r, rfl, hrep, hb, hk, bel⟩
 have hno : ∀ {t k : Nat} {e : E} {v : Value}, ¬ Zbg (⟨[(0, r)], []⟩ : AS) #[x] w' ρ t k e v := by
  rintro t k e v (⟨i, hi, _⟩ | ⟨n, cs, j, hb, _⟩)
  ·simp only [AS.get, ZL] at hi
   split at hi
   ·simp only [Option.getD_some] at hi; subst hi; cases hb
   ·simp at hi
  ·simp [AS.box, ZL] at hb
 refine ⟨x, r, [], (fun b o => S0 b o ∨ (w.heap.size ≤ b ∧ b < w'.heap.size)), ρ, rfl, hk, fun _ _ _ => ⟨rfl, rfl⟩, ?_⟩
 exact { glob := hr.glob, os := bel.os, tape := bel.tape, output := bel.output, size := bel.size, old := fun b hb _ => bel.block b hb
         stay := fun b o hs => bel.cell (p := ⟨b, o, none⟩) (hr.lt b o hs), up := fun _ _ h => .inl h, dn := fun b o h hl => by rcases h with h | h; exact .inl h; omega
         lt := fun b o hs => by rcases hs with hs | hs; exact Nat.lt_of_lt_of_le (hr.lt b o hs) bel.size; exact hs.2
         tmp := fun i => by
           simp only [AS.get, ZL]
           split
           · rename_i h0; subst h0; exact hrep
           · exact trivial
         nm := fun n cs hb => by simp [AS.box, ZL] at hb
         box := fun n cs hb => by simp [AS.box, ZL] at hb, inj := fun n m cs ds hb => by simp [AS.box, ZL] at hb
         own := fun t k e v hh => (hno hh).elim, apart := fun t k e v t' k' e' v' hh => (hno hh).elim, ownbox := fun t k e v n cs hh => (hno hh).elim }

inductive Sh (L : Tab) : Nat → List E → Prop
 | bool (t : Nat) (b : Bool) (h : (L.ti t).k = .bool) : Sh L t [.v (.bool b)]
 | int (t : Nat) (k : IntKind) (n : Int) (h : (L.ti t).k = .int k) (hn : k.min ≤ n ∧ n ≤ k.max) : Sh L t [.v (.int k n)]
 | string (t : Nat) (s : ByteArray) (h : (L.ti t).k = .string) (hs : s.size ≤ maxLen) : Sh L t [.v (.string s)]
 | slice (t e : Nat) (rows : List (List E)) (h : (L.ti t).k = .slice e) (hl : rows.length ≤ maxLen) (hr : ∀ (i : Nat) (row : List E), rows[i]? = some row → Sh L e row) : Sh L t [.sl rows]
 | struct (t : Nat) (fs : List (Nat × Nat)) (parts : List (List E)) (h : (L.ti t).k = .struct fs) (hl : parts.length = fs.length) (hf : ∀ (i ft off : Nat) (part : List E), fs[i]? = some (ft, off) → parts[i]? = some part → Sh L ft part) : Sh L t parts.flatten
 | array (t n e : Nat) (parts : List (List E)) (h : (L.ti t).k = .array n e) (hl : parts.length = n) (hf : ∀ (i : Nat) (part : List E), parts[i]? = some part → Sh L e part) : Sh L t parts.flatten
def Zuw (L : Tab) (total : Nat) : Nat → List (Nat × Nat) → Bool
 | off, [] => off == total
 | off, (t, o) :: fs => o == off && Zuw L total (off + (L.ti t).size) fs
def simpleIn (L : Tab) (R : List Nat) : Bool := R.all fun t =>
 match (L.ti t).k with
 | .bool | .int _ | .string => true
 | .slice e => R.contains e && (L.ti e).size != 0
 | .array n e => R.contains e && n * (L.ti e).size == (L.ti t).size
 | .struct fs => Zuw L (L.ti t).size 0 fs && fs.all fun f => R.contains f.1
 | _ => false
def old (w : World) : Z1 := fun b _ => b < w.heap.size
theorem Zxf {α : Type} {p : Nat → α → Prop} : ∀ n, (∀ i, i < n → ∃ x, p i x) → ∃ l : List α, l.length = n ∧ ∀ i x, l[i]? = some x → p i x
 | 0, _ => ⟨[], rfl, fun i x h => by simp at h⟩
 | n + 1, h => by
  obtain ⟨l, hl, hp⟩ := Zxf n fun i hi => h i (by omega)
  obtain ⟨x, hx⟩ := h n (by omega)
  refine ⟨l ++ [x], by simp [hl], fun i y hy => ?_⟩
  rcases Nat.lt_or_ge i n with hi | hi
  ·rw [List.getElem?_append_left (by omega)] at hy; exact hp i y hy
  ·rw [List.getElem?_append_right (by omega)] at hy
   have : i = n := by
    rcases Nat.lt_or_ge (i - l.length) 1 with h1 | h1
    ·omega
    ·rw [List.getElem?_eq_none (by simpa using h1)] at hy; cases hy
   subst this
   rw [hl] at hy
   simp at hy; subst hy; exact hx
theorem Zfc.append {w : World} {St : Z1} {a b : List E} {u v : List Value} (h : Zfc w St a u) (k : Zfc w St b v) : Zfc w St (a ++ b) (u ++ v) := by
 refine ⟨by simp [h.1, k.1], fun i e he => ?_⟩
 rcases Nat.lt_or_ge i a.length with hi | hi
 ·rw [List.getElem?_append_left hi] at he
  rw [List.getElem?_append_left (by rw [← h.1]; exact hi)]
  exact h.2 i e he
 ·rw [List.getElem?_append_right hi] at he
  rw [List.getElem?_append_right (by rw [← h.1]; exact hi), ← h.1]
  exact k.2 _ e he
mutual
def Zh2 {H : Type} : DataW H → Nat
 | .lit (.string bytes) => bytes.length + 1
 | .lit _ => 1
 | .nil => 1
 | .ptr d => Zh2 d + 1
 | .slice elems spare => bulks elems + bulks spare + 1
 | .agg parts => bulks parts + 1
 | .iface _ d => Zh2 d + 1
 | .map entries => Zrm entries + 1
 | .held _ => 1
def bulks {H : Type} : List (DataW H) → Nat
 | [] => 0
 | d :: r => Zh2 d + bulks r
def Zrm {H : Type} : List (Lit × DataW H) → Nat
 | [] => 0
 | x :: r => ZzS x + Zrm r
def ZzS {H : Type} : Lit × DataW H → Nat
 | (.string bytes, d) => bytes.length + Zh2 d + 1
 | (_, d) => Zh2 d + 1
end
mutual
def Zm4 : E → Nat
 | .v (.string s) => s.size + 1
 | .v _ => 1
 | .sl rows => Zgz rows + 1
 | .nils => 1
 | .ifc _ => 1
 | _ => 1
def Zcf : List E → Nat
 | [] => 0
 | e :: es => Zm4 e + Zcf es
def Zgz : List (List E) → Nat
 | [] => 0
 | r :: rs => Zcf r + Zgz rs
end
theorem ZhR : ∀ a b : List E, Zcf (a ++ b) = Zcf a + Zcf b
 | [], b => by simp [Zcf]
 | x :: a, b => by rw [List.cons_append, Zcf, Zcf, ZhR a b]; omega
def ZrK (m : Nat → Nat) : Nat → Nat
 | 0 => 0
 | n + 1 => m 0 + ZrK (fun i => m (i + 1)) n
theorem Zsy : ∀ (rows : List (List E)) (m : Nat → Nat), (∀ (i : Nat) (row : List E), rows[i]? = some row → Zcf row ≤ m i) → Zgz rows ≤ ZrK m rows.length
 | [], m, _ => by simp [Zgz]
 | r :: rs, m, h => by
  rw [Zgz, List.length_cons, ZrK]
  exact Nat.add_le_add (h 0 r rfl) (Zsy rs _ fun i row hi => h (i + 1) row hi)
def mX {H β : Type} (xs : List (DataW H × β)) (i : Nat) : Nat := match xs[i]? with | some y => Zh2 y.1 | none => 0
theorem Zp5 {H β : Type} : ∀ xs : List (DataW H × β), ZrK (mX xs) xs.length = bulks (xs.map (·.1))
 | [] => by simp [ZrK, bulks]
 | x :: xs => by
  rw [List.length_cons, ZrK, List.map_cons, bulks, ← Zp5 xs]
  rfl
theorem ZzG {H β : Type} {xs : List (DataW H × β)} {i : Nat} {y : DataW H × β} (h : xs[i]? = some y) : mX xs i = Zh2 y.1 := by unfold mX; rw [h]
theorem ZsB {w : World} {St : Z1} {L : Tab} {cs : List Value} : ∀ (fs : List (Nat × Nat)) (off : Nat) (m : Nat → Nat), Zuw L cs.length off fs = true →
  (∀ (i ft o : Nat), fs[i]? = some (ft, o) → ∃ es, Sh L ft es ∧ Zfc w St es ((cs.drop o).take (L.ti ft).size) ∧ Zcf es ≤ m i) →
  ∃ parts : List (List E), parts.length = fs.length ∧ (∀ (i ft o : Nat) (part : List E), fs[i]? = some (ft, o) → parts[i]? = some part → Sh L ft part) ∧ Zfc w St parts.flatten (cs.drop off) ∧ Zcf parts.flatten ≤ ZrK m fs.length
 | [], off, m, hl, _ => by
  simp only [Zuw, beq_iff_eq] at hl
  exact ⟨[], rfl, fun i ft o part h => by simp at h, by subst hl; simp [Zfc], by simp [Zcf]⟩
 | (t, o) :: fs, off, m, hl, h => by
  simp only [Zuw, Bool.and_eq_true, beq_iff_eq] at hl
  obtain ⟨rfl, hl⟩ := hl
  obtain ⟨es, he, hr, hb⟩ := h 0 t o rfl
  obtain ⟨parts, h1, h2, h3, h4⟩ := ZsB fs _ (fun i => m (i + 1)) hl fun i ft o' hi => h (i + 1) ft o' hi
  refine ⟨es :: parts, by simp [h1], fun i ft o' part hi hp => ?_, ?_, by rw [List.flatten_cons, ZhR, List.length_cons, ZrK]; omega⟩
  ·cases i with
   | zero => simp only [List.getElem?_cons_zero, Option.some.injEq, Prod.mk.injEq] at hi hp; obtain ⟨rfl, rfl⟩ := hi; subst hp; exact he
   | succ i => exact h2 i ft o' part hi hp
  ·have := hr.append h3
   rw [List.flatten_cons]
   rwa [show List.drop (o + (L.ti t).size) cs = List.drop (L.ti t).size (List.drop o cs) by rw [List.drop_drop], List.take_append_drop] at this
theorem Zun {w : World} {St : Z1} {L : Tab} {e sz : Nat} : ∀ (n : Nat) (cs : List Value) (m : Nat → Nat), cs.length = n * sz →
  (∀ i, i < n → ∃ es, Sh L e es ∧ Zfc w St es ((cs.drop (i * sz)).take sz) ∧ Zcf es ≤ m i) →
  ∃ parts : List (List E), parts.length = n ∧ (∀ (i : Nat) (part : List E), parts[i]? = some part → Sh L e part) ∧ Zfc w St parts.flatten cs ∧ Zcf parts.flatten ≤ ZrK m n
 | 0, cs, m, hl, _ => ⟨[], rfl, fun i part h => by simp at h, by
   have : cs = [] := List.eq_nil_of_length_eq_zero (by simpa using hl)
   subst this; simp [Zfc], by simp [Zcf]⟩
 | n + 1, cs, m, hl, h => by
  obtain ⟨es, he, hr, hb⟩ := h 0 (by omega)
  obtain ⟨parts, h1, h2, h3, h4⟩ := Zun n (cs.drop sz) (fun i => m (i + 1)) (by rw [List.length_drop, hl, Nat.succ_mul, Nat.add_sub_cancel]) fun i hi => by
   obtain ⟨es, he, hr, hb⟩ := h (i + 1) (by omega)
   refine ⟨es, he, ?_, hb⟩
   rwa [List.drop_drop, show sz + i * sz = (i + 1) * sz by rw [Nat.succ_mul]; omega]
  refine ⟨es :: parts, by simp [h1], fun i part hp => ?_, ?_, by rw [List.flatten_cons, ZhR, ZrK]; omega⟩
  ·cases i with
   | zero => simp only [List.getElem?_cons_zero, Option.some.injEq] at hp; subst hp; exact he
   | succ i => exact h2 i part hp
  ·have := hr.append h3
   rw [List.flatten_cons]
   simpa [Nat.zero_mul] using this
section
variable {H : Type} {enc : TypeId × Value → H} {P : Program} [Gl P] {w : World} {L : Tab} (hL : TOk P L) {R : List Nat} (hR : simpleIn L R = true)
theorem Ty.cells {t : Nat} {d : TypeDesc} {ti : TypeInfo} {i : TI} (h : Ty P i t d ti) : P.cellsOf t = i.size := by
 simp [Program.cellsOf, h.info, h.size]
include hL hR in
theorem ZiA {t : Nat} (ht : R.contains t = true) : ∃ d ti, Ty P (L.ti t) t d ti := by
 refine hL.ty (.inl ?_)
 have := List.all_eq_true.1 hR t (by simpa using ht)
 unfold TI.known
 split at this <;> simp_all
include hL hR in
theorem Zw9 {spare : Nat → Bool} {held : Bool} : ∀ (fuel t : Nat) (cs : List Value) (x : DataW H × List MemPlace), R.contains t = true → DataW.trod enc P w 0 spare held fuel t cs = some x →
  ∃ es, Sh L t es ∧ Zfc w (old w) es cs ∧ Zcf es ≤ Zh2 x.1 := by
 intro fuel
 induction fuel with
 | zero => intro t cs x _ h; simp [DataW.trod] at h
 | succ fuel ih =>
  intro t cs x ht h
  obtain ⟨d, ti, hty⟩ := ZiA hL hR ht
  have hs := List.all_eq_true.1 hR t (by simpa using ht)
  have one : ∀ (e : E) (v : Value), Zcu w (old w) e v → Zfc w (old w) [e] [v] := fun e v hr => ⟨rfl, fun k e' hk => by
   cases k with
   | zero => simp only [List.getElem?_cons_zero, Option.some.injEq] at hk; subst hk; exact ⟨v, rfl, hr⟩
   | succ k => simp at hk⟩
  have hk := hty.k
  have hu := hty.und
  unfold DataW.trod at h
  cases hd : d with
  | bool =>
   subst hd
   rw [hu] at h
   match cs, h with
   | [.bool b], h =>
    simp only [Option.some.injEq] at h; subst h
    exact ⟨_, .bool t b hk, one _ _ (.v _ rfl), by simp [Zcf, Zm4, Zh2]⟩
  | int k =>
   subst hd
   rw [hu] at h
   match cs, h with
   | [.int k' n], h =>
    simp only at h
    split at h
    ·rename_i hc; obtain ⟨rfl, hc⟩ := hc; simp only [Option.some.injEq] at h; subst h; exact ⟨_, .int t _ _ hk (by simpa [Lit.wf] using hc), one _ _ (.v _ rfl), by simp [Zcf, Zm4, Zh2]⟩
    ·cases h
  | string =>
   subst hd
   rw [hu] at h
   match cs, h with
   | [.string s], h =>
    simp only at h
    split at h
    ·rename_i hc; simp only [Option.some.injEq] at h; subst h; exact ⟨_, .string t _ hk hc, one _ _ (.v _ rfl), by simp [Zcf, Zm4, Zh2]⟩
    ·cases h
  | slice e =>
   subst hd
   rw [hu] at h
   rw [hk] at hs
   simp only [ZfX, Bool.and_eq_true, bne_iff_ne, ne_eq] at hs
   obtain ⟨he, hsz⟩ := hs
   obtain ⟨de, tie, hte⟩ := ZiA hL hR he
   match cs, h with
   | [.slice none 0 0], h =>
    simp only [Option.some.injEq] at h; subst h
    exact ⟨_, .slice t e [] hk (by simp) (fun i row hi => by simp at hi), one _ _ (.sl [] none 0 0 0 0 0 (fun _ _ => undef) rfl (by omega) (by simp) (fun h0 => by omega) (fun i row hi => by simp at hi) (fun i k row e hi => by simp at hi) (fun i k row e hi => by simp at hi)), by simp [Zcf, Zm4, Zgz, Zh2]⟩
   | [.slice (some a) len cap], h =>
    simp only at h
    split at h
    case isFalse => cases h
    rename_i hc
    obtain ⟨_, hlc, hcm⟩ := hc
    simp only [Option.bind_eq_some_iff] at h
    obtain ⟨elems, helems, hrest⟩ := h
    simp only [Option.map_eq_some_iff] at hrest
    obtain ⟨rest, _, hx⟩ := hrest
    have hget := mapM_some_get helems
    have hlen := mapM_some_length helems
    simp only [List.length_range] at hlen
    have row_of : ∀ i, i < len → ∃ row : List E, Sh L e row ∧ Zcf row ≤ mX elems i ∧ ∃ vs : List Value, w.cells? 0 (a.add (i * P.cellsOf e)) (P.cellsOf e) = some vs ∧ Zfc w (old w) row vs := fun i hi => by
     have h1 := hget i i (by rw [List.getElem?_range hi])
     rw [List.getElem?_eq_getElem (by omega : i < elems.length)] at h1
     simp only [Option.bind_eq_some_iff] at h1
     obtain ⟨vs, h2, h3⟩ := h1
     obtain ⟨row, h4, h5, h6⟩ := ih e vs _ he h3
     exact ⟨row, h4, by rw [ZzG (List.getElem?_eq_getElem (by omega : i < elems.length))]; exact h6, vs, h2, h5⟩
    obtain ⟨rows, hrl, hrows⟩ := Zxf len row_of
    have hcell : ∀ (i k : Nat) (row : List E) (x : E), rows[i]? = some row → row[k]? = some x → ∃ u, w.cell? ((a.add (i * P.cellsOf e)).add k) = some u ∧ Zcu w (old w) x u := fun i k row x hi hx => by
     obtain ⟨_, _, vs, h1, h2⟩ := hrows i row hi
     obtain ⟨u, hu1, hu2⟩ := h2.2 k x hx
     unfold World.cells? at h1
     rw [if_pos (Nat.zero_le _)] at h1
     have hkl : k < P.cellsOf e := by
      have := mapM_some_length h1
      rw [List.length_range] at this
      rw [← this]
      exact (List.getElem?_eq_some_iff.1 hu1).1
     have h3 := mapM_some_get h1 k k (by rw [List.getElem?_range hkl])
     exact ⟨u, h3.trans hu1, hu2⟩
    have hrow : ∀ (i : Nat) (row : List E), rows[i]? = some row → row.length = (L.ti e).size := fun i row hi => by
     obtain ⟨_, _, vs, h1, h2⟩ := hrows i row hi
     unfold World.cells? at h1
     rw [if_pos (Nat.zero_le _)] at h1
     have := mapM_some_length h1
     rw [List.length_range] at this
     rw [h2.1, this, hte.cells]
    have hspot : 0 < len → a.spot = none := fun h0 => by
     obtain ⟨row, hr0⟩ : ∃ row, rows[0]? = some row := ⟨_, List.getElem?_eq_getElem (by omega)⟩
     have h1 := hrow 0 row hr0
     obtain ⟨x, hx⟩ : ∃ x, row[0]? = some x := ⟨_, List.getElem?_eq_getElem (by omega)⟩
     obtain ⟨u, h2, _⟩ := hcell 0 0 row x hr0 hx
     simp only [Nat.zero_mul, Addr.add, if_true] at h2
     unfold World.cell? at h2
     split at h2
     ·split at h2
      ·cases h2
      ·rename_i hn; simpa using hn
     ·cases h2
    have hadd : ∀ i k, 0 < len → (a.add (i * P.cellsOf e)).add k = ⟨a.block, a.off + i * (L.ti e).size + k, none⟩ := fun i k h0 => by
     have ha : a = ⟨a.block, a.off, none⟩ := by have := hspot h0; cases a; simp_all
     rw [ha, Zeq, Zeq, hte.cells]
    refine ⟨_, .slice t e rows hk (by omega) (fun i row hi => (hrows i row hi).1), one _ _ (.sl rows (some a) len cap (L.ti e).size a.block a.off (fun i k => (w.cell? ⟨a.block, a.off + i * (L.ti e).size + k, none⟩).getD undef) hrl hlc hcm
     (fun h0 => by have := hspot h0; cases a; simp_all) hrow (fun i k row x hi hx => ?_) (fun i k row x hi hx => ?_)), ?_⟩
    rotate_right
    ·have h1 := Zsy rows (mX elems) fun i row hi => (hrows i row hi).2.1
     rw [hrl, show len = elems.length by omega, Zp5] at h1
     subst hx
     simp only [Zcf, Zm4, Zh2]; omega
    ·have h0 : 0 < len := by rw [← hrl]; exact Nat.lt_of_le_of_lt (Nat.zero_le i) (List.getElem?_eq_some_iff.1 hi).1
     obtain ⟨u, h1, h2⟩ := hcell i k row x hi hx
     rw [hadd i k h0] at h1
     refine ⟨World.block_lt_of_cell? w ⟨a.block, a.off + i * (L.ti e).size + k, none⟩ h1, by rw [h1]; rfl⟩
    ·have h0 : 0 < len := by rw [← hrl]; exact Nat.lt_of_le_of_lt (Nat.zero_le i) (List.getElem?_eq_some_iff.1 hi).1
     obtain ⟨u, h1, h2⟩ := hcell i k row x hi hx
     rw [hadd i k h0] at h1
     rw [h1]; exact h2
  | struct fs =>
   subst hd
   rw [hu] at h
   rw [hk] at hs
   simp only [ZfX, Bool.and_eq_true] at hs
   obtain ⟨hlaid, hin⟩ := hs
   simp only at h
   split at h
   case isFalse => cases h
   rename_i hlen
   simp only [Option.map_eq_some_iff] at h
   obtain ⟨xs, hxs, hx⟩ := h
   have hget := mapM_some_get hxs
   have hlx := mapM_some_length hxs
   obtain ⟨parts, h1, h2, h3, h6⟩ := ZsB (w := w) (St := old w) (L := L) (cs := cs) (fs.toList.map fun f => (f.type, f.offset)) 0 (mX xs) (by rw [hlen, hty.cells]; exact hlaid) fun i ft o hi => by
    rw [List.getElem?_map] at hi
    cases hf : fs.toList[i]? with
    | none => rw [hf] at hi; cases hi
    | some f =>
     rw [hf] at hi
     simp only [Option.map_some, Option.some.injEq, Prod.mk.injEq] at hi
     obtain ⟨rfl, rfl⟩ := hi
     have h1 := hget i f hf
     have hc : R.contains f.type = true := by
      refine List.all_eq_true.1 hin (f.type, f.offset) (List.mem_map.2 ⟨f, List.mem_of_getElem? hf, rfl⟩)
     obtain ⟨df, tif, htf⟩ := ZiA hL hR hc
     cases hx : xs[i]? with
     | none =>
      have := mapM_some_length hxs
      have := (List.getElem?_eq_some_iff.1 hf).1
      have := List.getElem?_eq_none_iff.1 hx
      omega
     | some y =>
      rw [hx] at h1
      obtain ⟨es, h4, h5, h6⟩ := ih f.type _ y hc h1
      exact ⟨es, h4, by rwa [htf.cells] at h5, by rw [ZzG hx]; exact h6⟩
   rw [List.length_map, ← hlx, Zp5] at h6
   subst hx
   exact ⟨_, .struct t _ parts hk h1 h2, by simpa using h3, by simp only [Zh2]; omega⟩
  | array n e =>
   subst hd
   rw [hu] at h
   rw [hk] at hs
   simp only [ZfX, Bool.and_eq_true, beq_iff_eq] at hs
   obtain ⟨hin, hsz⟩ := hs
   obtain ⟨de, tie, hte⟩ := ZiA hL hR hin
   simp only at h
   split at h
   case isFalse => cases h
   rename_i hlen
   simp only [Option.map_eq_some_iff] at h
   obtain ⟨xs, hxs, hx⟩ := h
   have hget := mapM_some_get hxs
   have hlx := mapM_some_length hxs
   rw [List.length_range] at hlx
   obtain ⟨parts, h1, h2, h3, h6⟩ := Zun (w := w) (St := old w) (L := L) (e := e) (sz := (L.ti e).size) n cs (mX xs) (by rw [hlen, hty.cells]; exact hsz.symm) fun i hi => by
    have h1 := hget i i (by rw [List.getElem?_range hi])
    rw [List.getElem?_eq_getElem (by omega : i < xs.length), hte.cells] at h1
    rw [ZzG (List.getElem?_eq_getElem (by omega : i < xs.length))]
    exact ih e _ _ hin h1
   rw [← hlx, Zp5] at h6
   subst hx
   exact ⟨_, .array t n e parts hk h1 h2, h3, by simp only [Zh2]; omega⟩
  | _ => subst hd; rw [hk] at hs; simp [ZfX] at hs
include hL hR in
theorem arg_c {base : Nat} {ρ : Nat → Nat} {spare : Nat → Bool} {held : Bool} {t : Nat} {v : Value} {d : DataW H} {ps : List MemPlace} (ht : R.contains t = true) (hagg : (L.ti t).isAgg = false) (hok : Value.okWide P w .any base t v)
  (h : DataW.Trod enc P w 0 spare held t v d ps) : ∃ e, Sh L t [e] ∧ Zdj w (old w) ρ (.c none e) v ∧ Zcf [e] ≤ Zh2 d := by
 obtain ⟨fuel, h⟩ := h
 obtain ⟨es, h1, h2, hb⟩ := Zw9 hL hR fuel t _ _ ht h
 obtain ⟨d', ti, hty⟩ := ZiA hL hR ht
 have hv : v.cells = #[v] := by
  have hk := hty.k
  unfold Value.okWide at hok
  rw [hty.und] at hok
  cases v with
  | agg cs =>
   unfold TI.isAgg at hagg
   rw [hk] at hagg
   cases d' <;> simp_all [ZfX, Cell.okWide, Cell.ok]
  | _ => rfl
 rw [hv] at h2
 match es, h1, h2, hb with
 | [e], h1, h2, hb =>
  obtain ⟨u, hu, hr⟩ := h2.2 0 e rfl
  simp only [List.getElem?_cons_zero, Option.some.injEq] at hu
  subst hu
  exact ⟨e, h1, .e _ _ hr, hb⟩
 | [], _, h2, _ => exact absurd h2.1 (by simp)
 | _ :: _ :: _, _, h2, _ => exact absurd h2.1 (by simp)
include hL hR in
theorem arg_agg {base : Nat} {ρ : Nat → Nat} {spare : Nat → Bool} {held : Bool} {t : Nat} {v : Value} {d : DataW H} {ps : List MemPlace} (ht : R.contains t = true) (hagg : (L.ti t).isAgg = true) (hok : Value.okWide P w .any base t v)
  (h : DataW.Trod enc P w 0 spare held t v d ps) : ∃ es, Sh L t es ∧ Zdj w (old w) ρ (.agg es) v ∧ Zcf es ≤ Zh2 d := by
 obtain ⟨fuel, h⟩ := h
 obtain ⟨es, h1, h2, hb⟩ := Zw9 hL hR fuel t _ _ ht h
 obtain ⟨d', ti, hty⟩ := ZiA hL hR ht
 obtain ⟨cs, rfl⟩ : ∃ cs, v = .agg cs := by
  have hk := hty.k
  unfold Value.okWide at hok
  rw [hty.und] at hok
  unfold TI.isAgg at hagg
  rw [hk] at hagg
  cases d' <;> simp_all [ZfX]
  ·obtain ⟨cs, rfl, _⟩ := hok; exact ⟨cs, rfl⟩
  ·obtain ⟨cs, rfl, _⟩ := hok; exact ⟨cs, rfl⟩
 exact ⟨es, h1, ⟨cs.toList, by simp, .of h2⟩, hb⟩
def D.tokless : D → Bool
 | .c (some _) _ => false
 | _ => true
theorem ZxH {ρ : Nat → Nat} {args : List D} {ZbQ : Array Value} (hn : args.all D.tokless = true) (hr : ∀ i, Zdj w (old w) ρ ((⟨ZdD 0 args, []⟩ : AS).get i) (ZbQ.getD i undef)) (hG : Zjr P w (old w)) :
  ZA P w (fun _ => False) (old w) ⟨ZdD 0 args, []⟩ ZbQ w (old w) ρ := by
 have look_at : ∀ (l : List D) (j i : Nat) (d : D), ZL (ZdD j l) i = some d → d ∈ l := by
  intro l
  induction l with
  | nil => intro j i d h; simp [ZdD, ZL] at h
  | cons a l ih =>
   intro j i d h
   simp only [ZdD, ZL] at h
   split at h
   ·simp only [Option.some.injEq] at h; subst h; simp
   ·exact List.mem_cons_of_mem _ (ih _ _ _ h)
 have hno : ∀ {t k : Nat} {e : E} {v : Value}, ¬ Zbg (⟨ZdD 0 args, []⟩ : AS) ZbQ w ρ t k e v := by
  rintro t k e v (⟨i, hi, _⟩ | ⟨n, cs, j, hb, _⟩)
  ·simp only [AS.get] at hi
   cases hl : ZL (ZdD 0 args) i with
   | none => rw [hl] at hi; cases hi
   | some d =>
    rw [hl] at hi
    simp only [Option.getD_some] at hi
    subst hi
    have := List.all_eq_true.1 hn _ (look_at _ _ _ _ hl)
    simp [D.tokless] at this
  ·simp [AS.box, ZL] at hb
 exact { glob := hG, os := rfl, tape := rfl, output := rfl, size := Nat.le_refl _, old := fun _ _ _ => rfl, stay := fun _ _ _ => rfl, up := fun _ _ h => h, dn := fun _ _ h _ => .inl h, lt := fun _ _ h => h
         tmp := hr, nm := fun n cs hb => by simp [AS.box, ZL] at hb
         box := fun n cs hb => by simp [AS.box, ZL] at hb, inj := fun n m cs ds hb => by simp [AS.box, ZL] at hb
         own := fun t k e v hh => (hno hh).elim, apart := fun t k e v t' k' e' v' hh => (hno hh).elim, ownbox := fun t k e v n cs hh => (hno hh).elim }
theorem law_calls {f : FuncId} {args : List D} {ZbQ : Array Value} {ρ : Nat → Nat} (hn : args.all D.tokless = true) (hs : ZbQ.size = args.length) (hr : ∀ i, Zdj w (old w) ρ ((⟨ZdD 0 args, []⟩ : AS).get i) (ZbQ.getD i undef)) (hG : Zjr P w (old w))
  (h : CallsA P f args fun r => r = .c none (.v (.bool true))) : Calls P f ZbQ w fun e w' => e = .returned (.bool true) ∧ Below w.heap.size w w' := by
 refine (h.runs w (old w) (fun _ => False) ZbQ ρ hs (ZxH hn hr hG)).mono ?_
 rintro e w' ⟨v, r, bx', St', ρ', rfl, rfl, _, hrel⟩
 have h0 := hrel.tmp 0
 have : v = .bool true := by
  have := Zec (d := .c none (.v (.bool true))) (y := .bool true) h0 rfl
  exact this.1
 exact ⟨by rw [this], hrel.os, hrel.tape, hrel.output, hrel.size, fun k hk => hrel.old k hk (fun h => h)⟩
end
theorem ZHH {α : Type} {l : List α} (h : l.length = 1) : ∃ a, l = [a] := by
 match l, h with | [a], _ => exact ⟨a, rfl⟩
theorem ZGm {α : Type} {l : List α} (h : l.length = 2) : ∃ a b, l = [a, b] := by
 match l, h with | [a, b], _ => exact ⟨a, b, rfl⟩
theorem ZDn {L : Tab} {t : Nat} {es : List E} (h : Sh L t es) {k : IntKind} (hk : (L.ti t).k = .int k) : ∃ n, es = [.v (.int k n)] ∧ k.min ≤ n ∧ n ≤ k.max := by
 cases h with
 | int _ k' n h hn => rw [hk] at h; injection h with h; subst h; exact ⟨n, rfl, hn⟩
 | bool _ _ h => rw [hk] at h; cases h
 | string _ _ h => rw [hk] at h; cases h
 | slice _ _ _ h => rw [hk] at h; cases h
 | struct _ _ _ h => rw [hk] at h; cases h
 | array _ _ _ _ h => rw [hk] at h; cases h
theorem Zr5 {L : Tab} {t : Nat} {es : List E} (h : Sh L t es) (hk : (L.ti t).k = .string) : ∃ s : ByteArray, es = [.v (.string s)] ∧ s.size ≤ maxLen := by
 cases h with
 | string _ s h hs => exact ⟨s, rfl, hs⟩
 | bool _ _ h => rw [hk] at h; cases h
 | int _ _ _ h => rw [hk] at h; cases h
 | slice _ _ _ h => rw [hk] at h; cases h
 | struct _ _ _ h => rw [hk] at h; cases h
 | array _ _ _ _ h => rw [hk] at h; cases h
theorem ZAz {L : Tab} {t e : Nat} {es : List E} (h : Sh L t es) (hk : (L.ti t).k = .slice e) : ∃ rows, es = [.sl rows] ∧ rows.length ≤ maxLen ∧ ∀ row ∈ rows, Sh L e row := by
 cases h with
 | slice _ e' rows h hl hr => rw [hk] at h; injection h with h; subst h; exact ⟨rows, rfl, hl, fun row hm => by obtain ⟨i, hi, rfl⟩ := List.mem_iff_getElem.1 hm; exact hr i _ (List.getElem?_eq_getElem hi)⟩
 | bool _ _ h => rw [hk] at h; cases h
 | int _ _ _ h => rw [hk] at h; cases h
 | string _ _ h => rw [hk] at h; cases h
 | struct _ _ _ h => rw [hk] at h; cases h
 | array _ _ _ _ h => rw [hk] at h; cases h
theorem ZxT {L : Tab} {t : Nat} {fs : List (Nat × Nat)} {es : List E} (h : Sh L t es) (hk : (L.ti t).k = .struct fs) :
  ∃ parts : List (List E), es = parts.flatten ∧ parts.length = fs.length ∧ ∀ (i ft off : Nat) (part : List E), fs[i]? = some (ft, off) → parts[i]? = some part → Sh L ft part := by
 cases h with
 | struct _ fs' parts h hl hf => rw [hk] at h; injection h with h; subst h; exact ⟨parts, rfl, hl, hf⟩
 | bool _ _ h => rw [hk] at h; cases h
 | int _ _ _ h => rw [hk] at h; cases h
 | string _ _ h => rw [hk] at h; cases h
 | slice _ _ _ h => rw [hk] at h; cases h
 | array _ _ _ _ h => rw [hk] at h; cases h
theorem ZGL {α : Type} {l : List α} (h : l.length = 4) : ∃ a b c d, l = [a, b, c, d] := by
 match l, h with | [a, b, c, d], _ => exact ⟨a, b, c, d, rfl⟩
theorem Zoa {α : Type} {f : α → List E} : ∀ rows : List (List E), (∀ row ∈ rows, ∃ x, row = f x) → ∃ l : List α, rows = l.map f
 | [], _ => ⟨[], rfl⟩
 | r :: rs, h => by
  obtain ⟨x, rfl⟩ := h r (by simp)
  obtain ⟨l, rfl⟩ := Zoa rs fun row hm => h row (by simp [hm])
  exact ⟨x :: l, rfl⟩

end Go.Am
