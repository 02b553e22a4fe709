/- Part 3 of the proof: the abstract machine and its soundness. It holds for every input, without conditions. -/
import Derived.Scope
import Derived.RangeFuncIn
import Derived.RecoverIn
import Derived.IntWalk
import Derived.Test.YtklkaikbpciepaaGreatDoorScA
import Derived.Test.YtklkaikbpciepaaGreatDoorScB
set_option linter.unusedVariables false
set_option linter.unusedSimpArgs false
namespace Go.Am
open Go.RowKit
section
variable {P : Program} [Gl P] {L : Tab} (hL : TOk P L) {nt : Nat} (hnt : nt ≤ EXT) {w0 : World} {M0 : Nat → Prop} {S0 : ZaA} {ρ0 : Nat → Nat} {df : List Deferred} {ops : Array Oper} {es : List Nat}
structure ZCL (ops : Array Oper) (es : List Nat) : Prop where
 lt : ∀ i ∈ es, i < ops.size
 sorted : ZpX es = true
 dir : ∀ i o, ops[i]? = some o → ∀ j ∈ Zcs o, j < i
 guard : ∀ i o j want, ops[i]? = some o → o.guard = some (j, want) → j ∈ Zct ops i ∧ j < i
 light : ∀ i o, i ∈ es → ops[i]? = some o → ZrL o.op = true ∧ o.guard = none ∧ (∀ j ∈ Zct ops i, j ∈ es) ∧ (∃ t, o.dst = some t) ∧ (∀ j ∈ es, j ≠ i → Zb8 ops j ≠ o.dst) ∧ ∀ j ∈ es, ∀ t, Zb8 ops j = some t → t ∈ ZeZ o → j ∈ Zct ops i
 tail : ∀ i o, i ∉ es → ops[i]? = some o → (∀ j, j < i → j ∈ es ∨ j ∈ Zct ops i) ∧ ∀ j ∈ es, ∀ t, Zb8 ops j = some t → o.dst ≠ some t ∧ (t ∈ ZeZ o → j ∈ Zct ops i) ∧ ∀ g want, o.guard = some (g, want) → Zb8 ops g = some t → j ∈ Zct ops i
theorem ZBI (h : ZrN ops es = true) : ZCL ops es := by
 unfold ZrN at h
 simp only [Bool.and_eq_true] at h
 obtain ⟨⟨h1, hsort⟩, h2⟩ := h
 have hlt : ∀ i ∈ es, i < ops.size := fun i hi => by have := List.all_eq_true.1 h1 i hi; simpa using this
 have key : ∀ i o, ops[i]? = some o → _ := fun i o ho => by
  have hi : i < ops.size := (Array.getElem?_eq_some_iff.1 ho).1
  have := List.all_eq_true.1 h2 i (List.mem_range.2 hi)
  rw [ho] at this
  exact this
 refine ⟨hlt, hsort, fun i o ho j hj => ?_, fun i o j want ho hg => ?_, fun i o hi ho => ?_, fun i o hi ho => ?_⟩
 ·have := key i o ho
  simp only [Bool.and_eq_true] at this
  have := List.all_eq_true.1 this.1.1 j hj
  simpa using this
 ·have := key i o ho
  simp only [Bool.and_eq_true] at this
  have := this.1.2
  rw [hg] at this
  simp only [Bool.and_eq_true, List.contains_iff_mem, decide_eq_true_eq] at this
  exact this
 ·have := key i o ho
  simp only [Bool.and_eq_true] at this
  have := this.2
  rw [if_pos (by simpa using hi)] at this
  simp only [Bool.and_eq_true, Option.isNone_iff_eq_none, Option.isSome_iff_exists] at this
  obtain ⟨⟨⟨⟨⟨a1, a2⟩, a3⟩, a4⟩, a5⟩, a6⟩ := this
  refine ⟨a1, a2, fun j hj => by have := List.all_eq_true.1 a3 j hj; simpa using this, a4, fun j hj hne he => ?_, fun j hj t hd ht => ?_⟩
  ·have := List.all_eq_true.1 a5 j hj
   simp [hne, he] at this
  ·have := List.all_eq_true.1 a6 j hj
   rw [hd] at this
   simp only [Bool.or_eq_true, Bool.not_eq_true', List.contains_iff_mem] at this
   rcases this with h3 | h3
   ·have : (ZeZ o).contains t = true := by simpa using ht
    rw [this] at h3; cases h3
   ·exact h3
 ·have := key i o ho
  simp only [Bool.and_eq_true] at this
  have := this.2
  rw [if_neg (by simpa using hi)] at this
  simp only [Bool.and_eq_true] at this
  obtain ⟨a1, a2⟩ := this
  refine ⟨fun j hj => ?_, fun j hj t hd => ?_⟩
  ·have := List.all_eq_true.1 a1 j (List.mem_range.2 hj)
   simpa using this
  ·have := List.all_eq_true.1 a2 j hj
   rw [hd] at this
   simp only [Bool.and_eq_true, Bool.not_eq_true', beq_eq_false_iff_ne, ne_eq, Bool.or_eq_true, List.contains_iff_mem] at this
   obtain ⟨⟨b1, b2⟩, b3⟩ := this
   refine ⟨b1, fun ht => ?_, fun g want hg hgt => ?_⟩
   ·rcases b2 with b2 | b2
    ·have : (ZeZ o).contains t = true := by simpa using ht
     rw [this] at b2; cases b2
    ·exact b2
   ·rw [hg] at b3
    simp only [Bool.or_eq_true, Bool.not_eq_true', beq_eq_false_iff_ne, ne_eq, List.contains_iff_mem] at b3
    rcases b3 with b3 | b3
    ·exact absurd hgt b3
    ·exact b3
theorem ZqW (hdir : ∀ i o, ops[i]? = some o → ∀ j ∈ Zcs o, j < i) {X : Nat → Prop} (hcl : ∀ j o, X j → ops[j]? = some o → ∀ k ∈ Zcs o, X k) : ∀ i o, ops[i]? = some o → (∀ k ∈ Zcs o, X k) → ∀ k ∈ Zct ops i, X k := by
 intro i
 induction i using Nat.strongRecOn with
 | _ i ih =>
  intro o ho hd k hk
  rcases (Zp2 ho (hdir i o ho) k).1 hk with h | ⟨j, hj, hk⟩
  ·exact hd k h
  ·have hji := hdir i o ho j hj
   cases hoj : ops[j]? with
   | none => rw [ZmJ hoj] at hk; simp at hk
   | some oj => exact ih j hji oj hoj (hcl j oj (hd j hj) hoj) k hk
theorem ZBL (hdir : ∀ i o, ops[i]? = some o → ∀ j ∈ Zcs o, j < i) : ∀ i k, k ∈ Zct ops i → k < i := by
 intro i
 induction i using Nat.strongRecOn with
 | _ i ih =>
  intro k hk
  cases ho : ops[i]? with
  | none => rw [ZmJ ho] at hk; simp at hk
  | some o =>
   rcases (Zp2 ho (hdir i o ho) k).1 hk with h | ⟨j, hj, hk⟩
   ·exact hdir i o ho k h
   ·have := hdir i o ho j hj; have := ih j this k hk; omega
theorem Zqy (S : AS) (ts bs : List Nat) (i : Nat) : (S.maskK ts bs).get i = if ts.contains i then .bot else S.get i := by
 simp only [AS.get, AS.maskK, Zhk]; split <;> rfl
theorem ZmU {α : Type} (bs : List Nat) : ∀ (l : List (Nat × α)) (i : Nat), Z2 (l.filter fun p => bs.contains p.1) i = if bs.contains i then Z2 l i else none
 | [], i => by simp [Z2]
 | (j, x) :: l, i => by
  simp only [List.filter_cons]
  by_cases h : bs.contains j = true
  ·simp only [h, if_true, Z2, ZmU bs l i]
   by_cases hij : i = j
   ·subst hij; simp only [if_true, h]
   ·simp only [if_neg hij]
  ·simp only [if_neg h, ZmU bs l i, Z2]
   by_cases hij : i = j
   ·subst hij; simp only [if_neg h]
   ·rw [if_neg hij]
theorem Zuf (S : AS) (ts bs : List Nat) (n : Nat) : (S.maskK ts bs).box n = if bs.contains n then S.box n else none := by
 simp only [AS.box, AS.maskK, ZmU]
theorem Zol (ok : ZCL ops es) {all bs : List Nat} : ∀ (l : List Nat) (hs : List (List Nat)) (acc : AS) (K : AS → Prop), hs = l.map (ZtL ops es) → (∀ i ∈ l, i ∈ es) → ZpX l = true → ZvL P L nt ops all bs l hs acc K →
  ∃ U, K U ∧ (∀ t, (∀ i ∈ l, Zb8 ops i ≠ some t) → U.get t = acc.get t) ∧ (∀ n, U.box n = acc.box n) ∧
   ∀ i ∈ l, ∀ o, ops[i]? = some o → Zgn nt o.dst = true ∧ ∃ u, o.dst = some u ∧ ZcQ P L o (U.maskK (ZtL ops es i) bs) (U.get u) [] ∧ ZpP all (U.get u) = true
 | [], hs, acc, K, _, _, _, h => ⟨acc, h, fun _ _ => rfl, fun _ => rfl, fun i hi => by simp at hi⟩
 | i :: l, [], acc, K, _, _, _, h => h.elim
 | i :: l, h0 :: hs, acc, K, hh, hes, hso, h => by
  simp only [List.map_cons, List.cons.injEq] at hh
  obtain ⟨rfl, hh⟩ := hh
  simp only [ZpX, Bool.and_eq_true] at hso
  have hie := hes i (by simp)
  simp only [ZvL, Zgs] at h
  split at h
  ·exact h.elim
  rename_i o ho
  obtain ⟨h1, d, us, h2, h3, h4⟩ := h
  simp only [Bool.and_eq_true, List.isEmpty_iff] at h3
  obtain ⟨h3, rfl⟩ := h3
  obtain ⟨U, k1, k2, k3, k4⟩ := Zol ok l hs _ K hh (fun j hj => hes j (by simp [hj])) hso.2 h4
  obtain ⟨l1, l2, l3, ⟨u, hu⟩, l5, l6⟩ := ok.light i o hie ho
  have hdi : Zb8 ops i = some u := by simp [Zb8, ho, hu]
  have hlt : ∀ j ∈ l, i < j := fun j hj => by have := List.all_eq_true.1 hso.1 j hj; simpa using this
  have hne : ∀ j ∈ l, Zb8 ops j ≠ some u := fun j hj => by
   have := l5 j (hes j (by simp [hj])) (by have := hlt j hj; omega)
   rw [hu] at this; exact this
  have hUu : U.get u = d := by
   rw [k2 u hne, AS.add, AS.setBoxes, hu]
   simp only [AS.putO, Ze1, if_true]
  refine ⟨U, k1, fun t ht => ?_, fun n => ?_, fun j hj oj hoj => ?_⟩
  ·rw [k2 t (fun j hj => ht j (by simp [hj])), AS.add, AS.setBoxes, hu]
   simp only [AS.putO, Ze1]
   rw [if_neg (fun e => ht i (by simp) (by rw [hdi, e]))]
  ·rw [k3, AS.add, AS.setBoxes, Zl5]
  ·rcases List.mem_cons.1 hj with rfl | hj
   ·rw [ho] at hoj; injection hoj with hoj; subst hoj
    refine ⟨h1, u, hu, ?_, by rw [hUu]; exact h3⟩
    rw [hUu]
    refine ZlC (fun n cs hn => ?_) (fun x hx => ?_) h2
    ·rw [Zuf] at hn ⊢
     split at hn
     ·rename_i hc; rw [if_pos hc, k3, AS.add, AS.setBoxes, Zl5]; exact hn
     ·cases hn
    ·cases x with
     | tmp t =>
      have htm : t ∈ ZeZ o := by
       unfold ZeZ
       rw [List.mem_filterMap]
       exact ⟨.tmp t, by simpa using hx, rfl⟩
      simp only [AS.ev]
      rw [Zqy, Zqy]
      split
      ·rfl
      ·have hto : ∀ q ∈ es, Zb8 ops q = some t → q < j := fun q hq hqt => ZBL ok.dir j q (l6 q hq t hqt htm)
       rw [k2 t (fun q hq he => by have := hto q (hes q (by simp [hq])) he; have := hlt q hq; omega), AS.add, AS.setBoxes, hu]
       simp only [AS.putO, Ze1]
       rw [if_neg]
       rintro rfl
       have := hto j hie hdi
       omega
     | _ => rfl
   ·exact k4 j hj oj hoj
theorem Zu4 {S U : AS} : ∀ {xs : List Nat}, Zv3 S xs = Zv3 U xs → ∀ x ∈ xs, S.get x = U.get x
 | [], _, x, hx => by simp at hx
 | y :: xs, h, x, hx => by
  simp only [Zv3, List.cons.injEq] at h
  rcases List.mem_cons.1 hx with rfl | hx
  ·exact h.1
  ·exact Zu4 h.2 x hx
theorem Zxt {S U : AS} : ∀ {xs : List Nat}, Zws S xs = Zws U xs → ∀ x ∈ xs, S.box x = U.box x
 | [], _, x, hx => by simp at hx
 | y :: xs, h, x, hx => by
  simp only [Zws, List.cons.injEq] at h
  rcases List.mem_cons.1 hx with rfl | hx
  ·exact h.1
  ·exact Zxt h.2 x hx
theorem Zx4 {all : List Nat} : ∀ {l : List (Nat × D)}, ZyG all l = true → ∀ i d, Z2 l i = some d → ZpP all d = true
 | [], _, i, d, h => by simp [Z2] at h
 | (j, x) :: l, h, i, d, hd => by
  simp only [ZyG, Bool.and_eq_true] at h
  simp only [Z2] at hd
  split at hd
  ·injection hd with hd; subst hd; exact h.1
  ·exact Zx4 h.2 i d hd
theorem Zyc {all : List Nat} : ∀ {l : List (Nat × List Cell)}, ZyH all l = true → ∀ i cs, Z2 l i = some cs → ZtP all cs = true
 | [], _, i, d, h => by simp [Z2] at h
 | (j, x) :: l, h, i, d, hd => by
  simp only [ZyH, Bool.and_eq_true] at h
  simp only [Z2] at hd
  split at hd
  ·injection hd with hd; subst hd; exact h.1
  ·exact Zyc h.2 i d hd
theorem ZtN {all : List Nat} : ∀ {l : List Cell}, ZtP all l = true → ∀ (j t k : Nat) (e : E), l[j]? = some (some (t, k), e) → all.contains t = false
 | [], _, j, t, k, e, h => by simp at h
 | (none, x) :: l, h, j, t, k, e, hj => by
  simp only [ZtP] at h
  cases j with
  | zero => simp at hj
  | succ j => exact ZtN h j t k e (by simpa using hj)
 | (some (t0, k0), x) :: l, h, j, t, k, e, hj => by
  simp only [ZtP, Bool.and_eq_true, Bool.not_eq_true'] at h
  cases j with
  | zero => simp only [List.getElem?_cons_zero, Option.some.injEq, Prod.mk.injEq] at hj; rw [← hj.1.1]; exact h.1
  | succ j => exact ZtN h.2 j t k e (by simpa using hj)
theorem Zxb {H : Nat → Prop} {all : List Nat} {T T' : AS} (h : (ZyG all T.tmps && ZyH all T.boxes) = true) (hm : ME H T T') {u : Nat} (hu : u ∈ all) : Zix (T'.strip u) T' := by
 rw [Bool.and_eq_true] at h
 refine Ztz (fun i k e he => ?_) (fun n cs hb j k e hj => ?_)
 ·by_cases hi : H i
  ·rw [hm.hid i hi] at he; cases he
  ·rw [hm.get i hi] at he
   have : ZpP all (T.get i) = true := by
    unfold AS.get at he ⊢
    cases hl : Z2 T.tmps i with
    | none => rfl
    | some d => exact Zx4 h.1 i d hl
   rw [he] at this
   simp [ZpP, hu] at this
 ·rw [hm.box] at hb
  have := ZtN (Zyc h.2 n cs hb) j u k e hj
  have h2 : all.contains u = true := by simpa using hu
  rw [this] at h2; cases h2
include hL in
theorem ZvF {o : Oper} {d : D} {T : AS} {a : Act} {w : World} (hl : ZrL o.op = true) (hT : ∀ u, o.dst = some u → Zix (T.strip u) T) (hd : Zgn nt o.dst = true) (hk : ZcQ P L o T d []) (h : Zcv P nt df w0 M0 S0 ρ0 T a w) {next : Act → World → Prop} {Q : Exit → Act → World → Prop}
  (hn : ∀ a' w', Zcv P nt df w0 M0 S0 ρ0 (T.putO o.dst d) a' w' → next a' w') : o.wp P a w next Q := by
 have hv : (([] : Upd) = [] ∧ opV L T o.op fun r => d = r) → o.wp P a w next Q := fun ⟨_, hv⟩ => by
  obtain ⟨hdef, hsize, St, ρ, h3, h4⟩ := h
  obtain ⟨r, v, rfl, hr, hrep, htok⟩ := ZqI hL h3 hv
  unfold Oper.wp
  rw [hr, Oper.upon_value]
  refine hn _ _ ⟨by rw [Zhg]; exact hdef, by rw [ZeQ]; exact hsize, St, ρ, ?_, h4⟩
  cases hdst : o.dst with
  | none => exact h3
  | some t =>
   rw [hdst] at hd
   have ht : t < nt := of_decide_eq_true hd
   exact h3.put (by rw [hsize]; exact ht) hrep htok
 unfold ZcQ at hk
 split at hk
 ·rename_i hop; rw [hop] at hl; cases hl
 ·rename_i hop; rw [hop] at hl; cases hl
 ·rename_i t len parts hop
  split at hk
  case h_2 => exact hk.elim
  rename_i u e hdst hty
  split at hk
  case h_2 => exact hk.elim
  rename_i z hz
  obtain ⟨_, hs0, hzl, hbig, hK⟩ := hk
  rw [hdst] at hd hn
  have hu : u < nt := of_decide_eq_true hd
  refine ZjS hL h hop hdst hty hz hu hs0 hzl hbig hK fun es a' w' ⟨rows', hwe, hes⟩ h' => hn _ _ ?_
  replace h' := h'.lessRows hwe
  have hTu := hT u hdst
  refine h'.less ⟨fun i => ?_, fun n cs hb => hTu.box n cs hb⟩
  simp only [AS.putO, Ze1]
  split
  ·exact .inr (.inr ⟨_, _, rfl, hes⟩)
  ·exact hTu.get i
 ·rename_i hop; rw [hop] at hl; cases hl
 ·rename_i hop; rw [hop] at hl; cases hl
 ·rename_i hop; rw [hop] at hl; cases hl
 ·rename_i hop; rw [hop] at hl; cases hl
 ·rename_i c hop
  rw [hop] at hl
  simp only [ZrL] at hl
  split at hk
  ·rename_i hc; rw [hc] at hl; cases hl
  ·rename_i hc; rw [hc] at hl; cases hl
  ·rename_i f hc; rw [hc] at hl; cases hl
  ·exact hv hk
 ·exact hv hk
include hL hnt in
theorem ZvW {C : AS → Prop} {K : AS → Prop} {k : Nat} {o : Oper} {rest : List Oper} {H : Nat → Prop} {T T' : AS} {a : Act} {w : World} (ho : ops[k]? = some o) (hk : Zpb P L nt ops C (o :: rest) T K) (hm : ME H T T') (h : Zcv P nt df w0 M0 S0 ρ0 T' a w)
  (hops : ∀ t ∈ ZeZ o, ¬ H t) (hdst : ∀ d, o.dst = some d → ¬ H d) (hgu : ∀ g want t, o.guard = some (g, want) → Zb8 ops g = some t → ¬ H t)
  {Q : Exit → Act → World → Prop} {next : Act → World → Prop} (hn : ∀ T2 T2' a' w', C T2 → Zpb P L nt ops C rest T2 K → ME H T2 T2' → Zcv P nt df w0 M0 S0 ρ0 T2' a' w' → next a' w') : wpOp P ops Q k next a w := by
 unfold wpOp
 simp only [ho]
 simp only [Zpb, Zgs] at hk
 split at hk
 ·rename_i hg
  have hw : Region.wanted o (yielded ops a.tmps) = true := by simp [Region.wanted, hg]
  rw [if_pos hw]
  exact .inl (ZeA hL hnt (Zsh hm hops hdst hk) h fun S' a' w' ⟨S2, ⟨h1, h2⟩, h3⟩ h' => hn S2 S' a' w' h1 h2 h3 h')
 ·rename_i j want hg
  split at hk
  case h_2 => exact hk.elim
  rename_i g hj
  have hH : ¬ H g := hgu j want g hg hj
  split at hk
  case h_3 => exact hk.elim
  case h_2 hb =>
   obtain ⟨hd, hk1, hk2⟩ := hk
   have hval : a.tmps.getD g undef = undef := by
    obtain ⟨_, _, St, ρ, h3, _⟩ := h
    have := h3.tmp g
    rw [hm.get g hH, hb] at this
    obtain ⟨vs, hv, hl, _⟩ := this
    rw [hv]
    have : vs = [] := List.eq_nil_of_length_eq_zero hl.symm
    rw [this]; rfl
   have hw : Region.wanted o (yielded ops a.tmps) = false := by
    simp only [Region.wanted, hg]
    have : yielded ops a.tmps j = none := by
     simp only [yielded, hj, Option.bind_some]
     rw [Array.getD_eq_getD_getElem?] at hval
     cases ht : a.tmps[g]? with
     | none => rfl
     | some y => rw [ht] at hval; simp only [Option.getD_some] at hval; rw [hval]; rfl
    rw [this]; rfl
   rw [hw]
   simp only [Bool.false_eq_true, if_false]
   exact hn _ _ _ _ hk1 hk2 (hm.putO hdst _) (ZjJ h hd)
  rename_i tk b hb
  obtain ⟨hd, hk⟩ := hk
  have hyes := fun e => Zlc hk e
  have hno := fun e => Zmq hk e
  have hb' : T'.get g = .c tk (.v (.bool b)) := by rw [hm.get g hH]; exact hb
  have hval : a.tmps.getD g undef = .bool b := by
   obtain ⟨_, _, St, ρ, h3, _⟩ := h
   have := h3.tmp g
   rw [hb'] at this
   exact (ZfF (d := .c tk (.v (.bool b))) this rfl).1
  have hw : Region.wanted o (yielded ops a.tmps) = (b == want) := by
   simp only [Region.wanted, hg]
   have hg2 : a.tmps[g]? = some (.bool b) := by
    rw [Array.getD_eq_getD_getElem?] at hval
    cases ht : a.tmps[g]? with
    | none => rw [ht] at hval; cases hval
    | some y => rw [ht] at hval; simp only [Option.getD_some] at hval; rw [hval]
   have : yielded ops a.tmps j = some b := by simp only [yielded, hj, Option.bind_some, hg2]
   rw [this]; rfl
  rw [hw]
  by_cases hbw : b = want
  ·subst hbw
   simp only [beq_self_eq_true, if_true]
   exact .inl (ZeA hL hnt (Zsh (hm.put hH _) hops hdst (hyes rfl)) (Zj6 h hb') fun S' a' w' ⟨S2, ⟨h1, h2⟩, h3⟩ h' => hn S2 S' a' w' h1 h2 h3 h')
  ·have hb2 : b = !want := by cases b <;> cases want <;> simp_all
   have hf : (b == want) = false := by simpa using hbw
   rw [hf]
   simp only [Bool.false_eq_true, if_false]
   subst hb2
   obtain ⟨h1, h2⟩ := hno rfl
   exact hn _ _ _ _ h1 h2 ((hm.put hH _).putO hdst _) (ZjJ (Zj6 h hb') hd)
structure PhX (P : Program) [Gl P] (L : Tab) (nt : Nat) (df : List Deferred) (w0 : World) (M0 : Nat → Prop) (S0 : ZaA) (ρ0 : Nat → Nat) (ops : Array Oper) (es : List Nat) (C K : AS → Prop) (X : Nat → Prop) (a : Act) (w : World) : Prop where
 cl : ∀ j o, X j → ops[j]? = some o → ∀ k ∈ Zcs o, X k
 at_ : ∃ p suf T T', ZkA ops es = p ++ suf ∧ (∀ i, i ∉ es → i < ops.size → (X i ↔ i ∈ p)) ∧ C T ∧ Zpb P L nt ops C (suf.filterMap (ops[·]?)) T K ∧ ME (fun t => ∃ i ∈ es, ¬ X i ∧ Zb8 ops i = some t) T T' ∧ Zcv P nt df w0 M0 S0 ρ0 T' a w
theorem ZsD {i : Nat} : i ∈ ZkA ops es ↔ i < ops.size ∧ i ∉ es := by
 unfold ZkA; rw [List.mem_filter, List.mem_range]; simp
theorem Zq9 : (ZkA ops es).Pairwise (· < ·) := by
 unfold ZkA; exact List.Pairwise.filter _ List.pairwise_lt_range
include hL hnt in
theorem ZyS (ok : ZCL ops es) {xs bs all : List Nat} {U : AS} {K : AS → Prop} {Q : Exit → Act → World → Prop}
  (hxs : ∀ i ∈ es, ∀ o, ops[i]? = some o → ∀ t ∈ ZeZ o, t ∈ xs) (hall : ∀ i ∈ es, ∀ t, Zb8 ops i = some t → t ∈ all ∧ t ∈ xs)
  (hU : ∀ i ∈ es, ∀ o, ops[i]? = some o → Zgn nt o.dst = true ∧ ∃ u, o.dst = some u ∧ ZcQ P L o (U.maskK (ZtL ops es i) bs) (U.get u) [] ∧ ZpP all (U.get u) = true)
  (hQ : ∀ S' a' w', K S' → Zcv P nt df w0 M0 S0 ρ0 S' a' w' → Q .normal a' w') :
  ∀ (fuel : Nat) (listed : Array Bool) (a : Act) (w : World), listed.size = ops.size → listed.toList.count false = fuel →
   PhX P L nt df w0 M0 S0 ρ0 ops es (ck xs bs all U) K (Zdi listed) a w → wpAny P .any ops Q fuel listed a w := by
 have alldone : ∀ {listed : Array Bool}, listed.size = ops.size → Region.ready .any ops listed = [] → ∀ i, i < ops.size → Zdi listed i := fun {listed} hs hr i => by
  induction i using Nat.strongRecOn with
  | _ i ih =>
   intro hi
   rcases Classical.em (Zdi listed i) with h | h
   ·exact h
   ·exfalso
    have ho : ops[i]? = some (ops[i]'hi) := by simp [hi]
    have : i ∈ Region.ready .any ops listed := (Zem hs).2 ⟨h, _, ho, fun k hk => by
     have hki := ok.dir i _ ho k hk
     exact ih k hki (by omega)⟩
    rw [hr] at this
    simp at this
 have fin : ∀ (listed : Array Bool) (a : Act) (w : World), listed.size = ops.size → Region.ready .any ops listed = [] →
   PhX P L nt df w0 M0 S0 ρ0 ops es (ck xs bs all U) K (Zdi listed) a w → Q .normal a w := by
  intro listed a w hs hr h
  have hdone := alldone hs hr
  obtain ⟨p, suf, T, T', hp, hX, hC, hk, hm, hrel⟩ := h.at_
  have hsuf : suf = [] := by
   cases suf with
   | nil => rfl
   | cons i suf =>
    exfalso
    have hmem : i ∈ ZkA ops es := by rw [hp]; simp
    obtain ⟨h1, h2⟩ := ZsD.1 hmem
    have h3 := (hX i h2 h1).1 (hdone i h1)
    have h4 := Zq9 (ops := ops) (es := es)
    rw [hp, List.pairwise_append] at h4
    have := h4.2.2 i h3 i (by simp)
    omega
  subst hsuf
  refine hQ T a w hk (hrel.less ⟨fun i => .inr (.inl ?_), fun n cs hn => ⟨cs, by rw [hm.box]; exact hn, rfl, fun k c hc => ⟨c, hc, rfl, .inl rfl⟩⟩⟩)
  exact (hm.get i fun ⟨j, hj, hnd, _⟩ => hnd (hdone j (ok.lt j hj))).symm
 intro fuel
 induction fuel with
 | zero =>
  intro listed a w hs hc h
  have hr : Region.ready .any ops listed = [] := by
   rw [List.eq_nil_iff_forall_not_mem]
   intro i hi
   obtain ⟨hnd, o, ho, _⟩ := (Zem hs).1 hi
   have hlt : i < listed.size := by rw [hs]; exact (Array.getElem?_eq_some_iff.1 ho).1
   have hf : listed[i] = false := by unfold Zdi at hnd; simpa [Array.getD, hlt] using hnd
   have hmem : false ∈ listed.toList := by rw [← hf]; simp
   have := List.count_pos_iff.2 hmem
   omega
  exact ⟨hr, fin listed a w hs hr h⟩
 | succ fuel ih =>
  intro listed a w hs hc h
  refine ⟨fun hr => fin listed a w hs hr h, fun i hi => ?_⟩
  obtain ⟨hnd, o, ho, hdir⟩ := (Zem hs).1 hi
  have hlt : i < listed.size := by rw [hs]; exact (Array.getElem?_eq_some_iff.1 ho).1
  have hs' : (listed.setIfInBounds i true).size = ops.size := by simp [hs]
  have hc' : (listed.setIfInBounds i true).toList.count false = fuel := by
   have hf : listed.toList[i]'(by simpa using hlt) = false := by unfold Zdi at hnd; simpa [Array.getD, hlt] using hnd
   rw [Array.toList_setIfInBounds, List.count_set (by simpa using hlt)]
   simp only [hf, hc, beq_self_eq_true, if_true]
   simp
  have hD : Zdi (listed.setIfInBounds i true) = fun j => Zdi listed j ∨ j = i := funext fun j => propext (Zhq hlt j)
  obtain ⟨p, suf, T, T', hp, hX, hC, hk, hm, hrel⟩ := h.at_
  have hpre := ZqW ok.dir h.cl i o ho hdir
  have hcl' : ∀ j oj, (Zdi listed j ∨ j = i) → ops[j]? = some oj → ∀ k ∈ Zcs oj, Zdi listed k ∨ k = i := fun j oj hj hoj k hk => by
   rcases hj with hj | rfl
   ·exact .inl (h.cl j oj hj hoj k hk)
   ·rw [ho] at hoj; injection hoj with hoj; subst hoj; exact .inl (hdir k hk)
  have hio : i < ops.size := by rw [← hs]; exact hlt
  by_cases hie : i ∈ es
  ·
   obtain ⟨l1, l2, l3, ⟨u, hu⟩, l5, l6⟩ := ok.light i o hie ho
   obtain ⟨hd, u', hu', hfree, htok⟩ := hU i hie o ho
   rw [hu] at hu'; injection hu' with hu'; subst hu'
   have hdi : Zb8 ops i = some u := by simp [Zb8, ho, hu]
   obtain ⟨c1, c2, c3⟩ := hC
   have hfree' : ZcQ P L o T' (U.get u) [] := by
    refine ZlC (fun n cs hn => ?_) (fun x hx => ?_) hfree
    ·rw [Zuf] at hn
     split at hn
     ·rename_i hcn; rw [hm.box, Zxt c2 n (by simpa using hcn)]; exact hn
     ·cases hn
    ·cases x with
     | tmp t =>
      have htm : t ∈ ZeZ o := by
       unfold ZeZ
       rw [List.mem_filterMap]
       exact ⟨.tmp t, by simpa using hx, rfl⟩
      simp only [AS.ev]
      rw [Zqy, if_neg, hm.get t, Zu4 c1 t (hxs i hie o ho t htm)]
      ·rintro ⟨j, hj, hnj, hjt⟩
       exact hnj (hpre j (l6 j hj t hjt htm))
      ·intro hc'
       have hc' : t ∈ ZtL ops es i := by simpa using hc'
       unfold ZtL at hc'
       rw [List.mem_filterMap] at hc'
       obtain ⟨j, hj, hjt⟩ := hc'
       split at hjt
       ·cases hjt
       ·rename_i hnc
        exact hnc (by simpa using l6 j hj t hjt htm)
     | _ => rfl
   unfold wpOp
   simp only [ho]
   have hw : Region.wanted o (yielded ops a.tmps) = true := by simp [Region.wanted, l2]
   rw [if_pos hw]
   refine .inl (ZvF hL l1 (fun q hq => Zxb c3 hm (by rw [hu] at hq; injection hq with hq; subst hq; exact (hall i hie _ hdi).1)) hd hfree' hrel fun a' w' h' => ih _ a' w' hs' hc' ?_)
   rw [hD]
   refine ⟨hcl', p, suf, T, T'.putO o.dst (U.get u), hp, fun j hj hjs => ?_, ⟨c1, c2, c3⟩, hk, ?_, h'⟩
   ·rw [← hX j hj hjs]
    exact ⟨fun hh => hh.resolve_right (fun e => hj (e ▸ hie)), .inl⟩
   ·rw [hu]
    refine ⟨fun t ⟨j, hj, hnj, hjt⟩ => ?_, fun t ht => ?_, fun n => ?_⟩
    ·have hne : t ≠ u := fun e => by
      subst e
      refine l5 j hj (fun e => hnj (.inr e)) ?_
      rw [hjt, hu]
     show (T'.put u _).get t = _
     rw [Ze1, if_neg hne]
     exact hm.hid t ⟨j, hj, fun hh => hnj (.inl hh), hjt⟩
    ·show (T'.put u _).get t = _
     rw [Ze1]
     by_cases he : t = u
     ·subst he
      rw [if_pos rfl]
      exact (Zu4 c1 t (hall i hie t hdi).2).symm
     ·rw [if_neg he]
      refine hm.get t fun ⟨j, hj, hnj, hjt⟩ => ht ⟨j, hj, fun hh => ?_, hjt⟩
      rcases hh with hh | rfl
      ·exact hnj hh
      ·rw [hdi] at hjt; injection hjt with hjt; exact he hjt.symm
    ·exact hm.box n
  ·
   obtain ⟨t1, t2⟩ := ok.tail i o hie ho
   have hip : i ∉ p := fun hmem => hnd ((hX i hie hio).2 hmem)
   have hmem : i ∈ ZkA ops es := ZsD.2 ⟨hio, hie⟩
   obtain ⟨suf', rfl⟩ : ∃ suf', suf = i :: suf' := by
    rw [hp, List.mem_append] at hmem
    have hmem := hmem.resolve_left hip
    cases suf with
    | nil => simp at hmem
    | cons j suf' =>
     rcases List.mem_cons.1 hmem with rfl | hmem
     ·exact ⟨suf', rfl⟩
     ·exfalso
      have h4 := Zq9 (ops := ops) (es := es)
      rw [hp, List.pairwise_append] at h4
      have hji : j < i := (List.pairwise_cons.1 h4.2.1).1 i hmem
      have hjt : j ∈ ZkA ops es := by rw [hp]; simp
      obtain ⟨hjs, hje⟩ := ZsD.1 hjt
      have hjp := (hX j hje hjs).1 (hpre j ((t1 j hji).resolve_left hje))
      have := h4.2.2 j hjp j (by simp)
      omega
   simp only [List.filterMap_cons, ho] at hk
   refine ZvW hL hnt ho hk hm hrel (fun t ht ⟨j, hj, hnj, hjt⟩ => hnj (hpre j ((t2 j hj t hjt).2.1 ht))) (fun d hd ⟨j, hj, hnj, hjt⟩ => (t2 j hj d hjt).1 hd) (fun g want t hg hgt ⟨j, hj, hnj, hjt⟩ => hnj (hpre j ((t2 j hj t hjt).2.2 g want hg hgt))) ?_
   intro T2 T2' a' w' hC2 hk2 hm2 h'
   refine ih _ a' w' hs' hc' ?_
   rw [hD]
   refine ⟨hcl', p ++ [i], suf', T2, T2', by rw [hp]; simp, fun j hj hjs => ?_, hC2, hk2, ?_, h'⟩
   ·rw [List.mem_append, List.mem_singleton, hX j hj hjs]
   ·have he : (fun t => ∃ j ∈ es, ¬ (Zdi listed j ∨ j = i) ∧ Zb8 ops j = some t) = fun t => ∃ j ∈ es, ¬ Zdi listed j ∧ Zb8 ops j = some t := funext fun t => propext
     ⟨fun ⟨j, hj, hnj, hjt⟩ => ⟨j, hj, fun hh => hnj (.inl hh), hjt⟩, fun ⟨j, hj, hnj, hjt⟩ => ⟨j, hj, fun hh => hh.elim hnj (fun e => hie (e ▸ hj)), hjt⟩⟩
    rw [he]; exact hm2
include hL in
theorem ZwW (hnt : nt ≤ EXT) : Zzi P L nt (@ZAb) := by
 intro df w0 M0 S0 ρ0 ops S a w K Q hk h hQ
 obtain ⟨es, hs, bs, xs, all, tl, h1, h2⟩ := hk
 simp only [Bool.and_eq_true, beq_iff_eq] at h1
 obtain ⟨⟨⟨⟨⟨h1, rfl⟩, rfl⟩, rfl⟩, hx⟩, hax⟩ := h1
 rw [Zgs] at h2
 have ok := ZBI h1
 obtain ⟨U, ⟨hcU, hkU⟩, k2, k3, k4⟩ := Zol (P := P) (L := L) (nt := nt) ok es _ _ _ rfl (fun i hi => hi) ok.sorted h2
 have hmd : ∀ i ∈ es, ∀ t, Zb8 ops i = some t → t ∈ ZtF ops es := fun i hi t ht => List.mem_filterMap.2 ⟨i, hi, ht⟩
 refine (ZyS hL hnt ok (xs := xs) (bs := bs) (all := ZtF ops es) (U := U) (K := K) (fun i hi o ho t ht => ?_) (fun i hi t ht => ⟨hmd i hi t ht, ?_⟩) k4 hQ ops.size _ a _ (by simp) (by simp [List.count_replicate]) ⟨fun j o hj => ?_, [], ZkA ops es, U, S.drop (ZtF ops es), rfl, fun i hi hlt => ⟨fun hd => ?_, fun hd => by simp at hd⟩, hcU, hkU, ?_, ?_⟩)
 ·have := List.all_eq_true.1 hx i hi
  rw [ho] at this
  have := List.all_eq_true.1 this t ht
  simpa using this
 ·have := List.all_eq_true.1 hax t (hmd i hi t ht)
  simpa using this
 ·exfalso; unfold Zdi at hj; simp [Array.getD, Array.getElem_replicate] at hj
 ·exfalso; unfold Zdi at hd; simp [Array.getD, Array.getElem_replicate] at hd
 ·refine ⟨fun t ⟨i, hi, _, ht⟩ => ?_, fun t ht => ?_, fun n => (k3 n).symm⟩
  ·rw [ZpV, Zu1, if_pos (by simpa using hmd i hi t ht)]; rfl
  ·refine (k2 t fun i hi he => ht ⟨i, hi, fun hd => ?_, he⟩).symm
   unfold Zdi at hd; simp [Array.getD, Array.getElem_replicate] at hd
 ·have h1 := h.less (Zv7 S (ZtF ops es))
  obtain ⟨h2, h3, St, ρ, h4, h5⟩ := h1
  replace h4 : ZQ P w0 M0 S0 (S.drop (ZtF ops es)) a.tmps w St ρ := by
   obtain ⟨_, _, St', ρ', h6, _⟩ := h
   exact h4.turn (Zuo _ h6.nm) (fun n m hm => by obtain ⟨rfl, _⟩ := ZfY hm; exact ⟨rfl, rfl⟩)
  exact ⟨h2, h3, St, ρ, h4, h5⟩
include hL in
theorem ZpF (hnt : nt ≤ EXT) : Zzi P L nt (@Zq7) := by
 intro df w0 M0 S0 ρ0 ops S a w K Q hk h hQ
 rcases hk with hk | hk
 ·exact Zyq hL hnt df w0 M0 S0 ρ0 ops S a w K Q hk h hQ
 ·exact ZwW hL hnt df w0 M0 S0 ρ0 ops S a w K Q hk h hQ
end

def Zq8 (s : Nat) (o : Oper) : Oper := { o with after := (o.after.toList.filterMap fun e => if e.on < s then none else some { e with on := e.on - s }).toArray }
def ZiO (ops : Array Oper) (s : Nat) : Array Oper := (ops.toList.take s).toArray
def ZkM (ops : Array Oper) (s : Nat) : Array Oper := ((ops.toList.drop s).map (Zq8 s)).toArray
def Zvm (ops : Array Oper) (s : Nat) : Bool :=
 Nat.ble s ops.size && (List.range ops.size).all fun i => match ops[i]? with
  | none => false
  | some o => (Zcs o).all (· < i) && (match o.guard with | some (j, _) => decide (j < i) | none => true) && (if Nat.blt i s then true else o.guard.isNone && (List.range s).all fun j => (Zct ops i).contains j)
def ZrU (ops : Array Oper) (s : Nat) : Bool :=
 Nat.ble s ops.size && (List.range ops.size).all fun i => match ops[i]? with
  | none => false
  | some o => (Zcs o).all (· < i) && (match o.guard with | some (j, _) => decide (j < i) | none => true) && (if Nat.blt i s then true else (List.range s).all fun j => (Zct ops i).contains j)
def ZBC (ops : Array Oper) (rem : List Nat) : List Nat := rem.filter fun i => match ops[i]? with | some o => rem.all fun j => !(Zcs o).contains j | none => false
def ZFA (P : Program) [Gl P] (L : Tab) (nt : Nat) (ops : Array Oper) (i : Nat) (S : AS) (K : AS → Prop) : Prop :=
 match ops[i]? with
 | some o => ZmT P L nt ops [o] S K
 | none => False
def ZCV (f : Nat → Prop) : List Nat → Prop
 | [] => True
 | [i] => f i
 | i :: is => f i ∧ ZCV f is
def ZEa (P : Program) [Gl P] (L : Tab) (nt : Nat) (ops : Array Oper) : Nat → List Nat → AS → (AS → Prop) → Prop
 | 0, rem, S, K => rem.isEmpty = true ∧ K S
 | n + 1, rem, S, K => ∃ rs : List Nat, (rs == ZBC ops rem) = true ∧ ZCV (fun i => ZFA P L nt ops i S fun S' => ZEa P L nt ops n (rem.erase i) S' K) rs
def ZjC (ops : Array Oper) (s : Nat) : List Nat := (List.range ops.size).drop s
def ZsV (P : Program) [Gl P] (L : Tab) (nt : Nat) (ops : Array Oper) (S : AS) (K : AS → Prop) : Prop :=
 Zq7 P L nt ops S K ∨ (∃ s, Zvm ops s = true ∧ Zq7 P L nt (ZiO ops s) S fun S' => ZeL S' fun S' => Zq7 P L nt (ZkM ops s) S' K) ∨
  ∃ s tl, (ZrU ops s && tl == ZjC ops s) = true ∧ Zq7 P L nt (ZiO ops s) S fun S' => ZEa P L nt ops tl.length tl S' K
section
variable {P : Program} {ops : Array Oper} {s : Nat}
structure SOk (ops : Array Oper) (s : Nat) : Prop where
 le : s ≤ ops.size
 dir : ∀ i (o : Oper), ops[i]? = some o → ∀ j ∈ Zcs o, j < i
 grd : ∀ i (o : Oper), ops[i]? = some o → ∀ j b, o.guard = some (j, b) → j < i
 beh : ∀ i, s ≤ i → i < ops.size → ∀ j, j < s → j ∈ Zct ops i
theorem Zx1 (h : ZrU ops s = true) : SOk ops s := by
 unfold ZrU at h
 rw [Bool.and_eq_true, Nat.ble_eq, List.all_eq_true] at h
 obtain ⟨h1, h2⟩ := h
 have h3 : ∀ i o, ops[i]? = some o → (Zcs o).all (· < i) = true ∧ (match o.guard with | some (j, _) => decide (j < i) | none => true) = true ∧ (if Nat.blt i s then true else (List.range s).all fun j => (Zct ops i).contains j) = true := fun i o ho => by
  have := h2 i (List.mem_range.2 (Array.getElem?_eq_some_iff.1 ho).1)
  simp only [ho, Bool.and_eq_true] at this
  exact ⟨this.1.1, this.1.2, this.2⟩
 refine ⟨h1, fun i o ho j hj => ?_, fun i o ho j b hg => ?_, fun i hi hlt j hj => ?_⟩
 ·have := List.all_eq_true.1 (h3 i o ho).1 j hj
  simpa using this
 ·have := (h3 i o ho).2.1
  rw [hg] at this
  simpa using this
 ·have ho : ops[i]? = some (ops[i]'hlt) := by simp [hlt]
  have := (h3 i _ ho).2.2
  rw [if_neg (by simp; omega)] at this
  have := List.all_eq_true.1 this j (List.mem_range.2 hj)
  simpa using this
theorem ZC2 (h : Zvm ops s = true) : SOk ops s ∧ ∀ i (o : Oper), s ≤ i → ops[i]? = some o → o.guard = none := by
 unfold Zvm at h
 rw [Bool.and_eq_true, Nat.ble_eq, List.all_eq_true] at h
 obtain ⟨h1, h2⟩ := h
 have h3 : ∀ i o, ops[i]? = some o → (Zcs o).all (· < i) = true ∧ (match o.guard with | some (j, _) => decide (j < i) | none => true) = true ∧ (if Nat.blt i s then true else o.guard.isNone && (List.range s).all fun j => (Zct ops i).contains j) = true := fun i o ho => by
  have := h2 i (List.mem_range.2 (Array.getElem?_eq_some_iff.1 ho).1)
  simp only [ho, Bool.and_eq_true] at this
  exact ⟨this.1.1, this.1.2, this.2⟩
 refine ⟨Zx1 ?_, fun i o hi ho => ?_⟩
 ·unfold ZrU
  rw [Bool.and_eq_true, Nat.ble_eq, List.all_eq_true]
  refine ⟨h1, fun i hi => ?_⟩
  have hlt := List.mem_range.1 hi
  have ho : ops[i]? = some (ops[i]'hlt) := by simp [hlt]
  obtain ⟨g1, g2, g3⟩ := h3 i _ ho
  rw [ho]
  simp only [Bool.and_eq_true]
  refine ⟨⟨g1, g2⟩, ?_⟩
  split at g3
  ·rename_i hb; rw [if_pos hb]
  ·rename_i hb; rw [if_neg hb]; rw [Bool.and_eq_true] at g3; exact g3.2
 ·have := (h3 i o ho).2.2
  rw [if_neg (by simp; omega), Bool.and_eq_true] at this
  simpa using this.1
theorem Zvo {i : Nat} (h : i < s) : (ZiO ops s)[i]? = ops[i]? := by
 unfold ZiO
 rw [List.getElem?_toArray, List.getElem?_take_of_lt h, Array.getElem?_toList]
theorem Zv4 (h : s ≤ ops.size) : (ZiO ops s).size = s := by unfold ZiO; simp [h]
theorem Zu2 (i : Nat) : (ZkM ops s)[i]? = (ops[s + i]?).map (Zq8 s) := by
 unfold ZkM
 rw [List.getElem?_toArray, List.getElem?_map, List.getElem?_drop, Array.getElem?_toList]
theorem Zvx : (ZkM ops s).size = ops.size - s := by unfold ZkM; simp
theorem ZsS (o : Oper) (k : Nat) : k ∈ Zcs (Zq8 s o) ↔ s + k ∈ Zcs o := by
 unfold Zcs Zq8
 simp only [List.mem_map, List.mem_filter, List.mem_filterMap]
 constructor
 ·rintro ⟨e, ⟨⟨e0, h1, h2⟩, h3⟩, rfl⟩
  split at h2
  ·cases h2
  ·injection h2 with h2
   subst h2
   refine ⟨e0, ⟨h1, ?_⟩, by simp; omega⟩
   exact h3
 ·rintro ⟨e, ⟨h1, h3⟩, h4⟩
  refine ⟨{ e with on := e.on - s }, ⟨⟨e, h1, ?_⟩, h3⟩, by simp; omega⟩
  rw [if_neg (by omega)]
theorem Zwe {o : Oper} {a : Act} {w : World} {next : Act → World → Prop} {Q Q1 : Exit → Act → World → Prop} (hp : ∀ c a w, Q1 (.panic c) a w → Q (.panic c) a w) (ho : LetsOut Q1 → LetsOut Q) (h : o.wp P a w next Q1) : o.wp P a w next Q := by
 unfold Oper.wp at *
 generalize (execOp a.eval o).run P w = r at *
 cases r with
 | ok n w' =>
  cases n <;> simp only [Oper.upon] at h ⊢ <;>
   first
    | exact h
    | exact Calls.mono h (fun e w'' he => by cases e <;> first | exact he | exact hp _ _ _ he | exact ho he)
 | halt x w' => cases x <;> simp only [Oper.upon] at h ⊢ <;> first | exact hp _ _ _ h | exact h
theorem ZwJ {ops1 : Array Oper} {i : Nat} (ok : SOk ops s) (hi : i < s) {a : Act} {w : World} {next next' : Act → World → Prop} {Q Q1 : Exit → Act → World → Prop} (hp : ∀ c a w, Q1 (.panic c) a w → Q (.panic c) a w) (ho : LetsOut Q1 → LetsOut Q)
  (hn : ∀ a w, next a w → next' a w) (h : wpOp P (ZiO ops s) Q1 i next a w) : wpOp P ops Q i next' a w := by
 unfold wpOp at h ⊢
 rw [Zvo hi] at h
 cases hoi : ops[i]? with
 | none => rw [hoi] at h; exact hn _ _ h
 | some o =>
  rw [hoi] at h
  simp only at h ⊢
  have hy : Region.wanted o (yielded (ZiO ops s) a.tmps) = Region.wanted o (yielded ops a.tmps) := by
   unfold Region.wanted
   cases hg : o.guard with
   | none => rfl
   | some q =>
    obtain ⟨j, b⟩ := q
    have hj := ok.grd i o hoi j b hg
    have : yielded (ZiO ops s) a.tmps j = yielded ops a.tmps j := by unfold yielded; rw [Zvo (by omega)]
    simp only [this]
  rw [hy] at h
  split
  ·rename_i hw
   rw [if_pos hw] at h
   rcases h with h | ⟨h1, h2⟩
   ·exact .inl (Zwe hp ho (Oper.wp_mono hn h))
   ·exact .inr ⟨h1, ho h2⟩
  ·rename_i hw
   rw [if_neg hw] at h
   exact hn _ _ h
theorem ZyR {listed : Array Bool} (hs : listed.size = s) (h : ∀ i, i < s → Zdi listed i) : listed.toList.count false = 0 := by
 rw [List.count_eq_zero]
 intro hm
 obtain ⟨i, hi, he⟩ := List.getElem_of_mem hm
 have hlt : i < listed.size := by simpa using hi
 have := h i (by omega)
 unfold Zdi at this
 simp [Array.getD, hlt] at this he
 rw [he] at this; cases this
theorem ZyZ (ok : SOk ops s) {Q : Exit → Act → World → Prop} :
  ∀ (fuel : Nat) (listed listed1 : Array Bool) (a : Act) (w : World), listed.size = ops.size → listed1.size = s → (∀ i, i < s → (Zdi listed i ↔ Zdi listed1 i)) → (∀ i, s ≤ i → ¬ Zdi listed i) →
   (∀ j o, Zdi listed j → ops[j]? = some o → ∀ k ∈ Zcs o, Zdi listed k) → listed1.toList.count false = fuel →
   wpAny P .any (ZiO ops s) (fun e a w => match e with | .normal => ∀ l : Array Bool, l.size = ops.size → (∀ i, Zdi l i ↔ i < s) → wpAny P .any ops Q (ops.size - s) l a w | e => Q e a w) fuel listed1 a w →
   wpAny P .any ops Q (fuel + (ops.size - s)) listed a w := by
 intro fuel
 induction fuel with
 | zero =>
  intro listed listed1 a w h1 h2 h3 h4 h5 h6 h
  rw [Nat.zero_add]
  refine h.2 listed h1 fun i => ⟨fun hd => ?_, fun hi => ?_⟩
  ·rcases Nat.lt_or_ge i s with hlt | hge
   ·exact hlt
   ·exact absurd hd (h4 i hge)
  ·refine (h3 i hi).2 ?_
   rcases Classical.em (Zdi listed1 i) with hd | hd
   ·exact hd
   ·exfalso
    have hlt : i < listed1.size := by omega
    have hf : listed1[i] = false := by unfold Zdi at hd; simpa [Array.getD, hlt] using hd
    have hmem : false ∈ listed1.toList := by rw [← hf]; simp
    have := List.count_pos_iff.2 hmem
    omega
 | succ fuel ih =>
  intro listed listed1 a w h1 h2 h3 h4 h5 h6 h
  have hps := Zv4 ok.le
  have h2' : listed1.size = (ZiO ops s).size := by rw [hps]; exact h2
  have notall : ¬ ∀ i, i < s → Zdi listed i := fun hall => by
   have := ZyR h2 fun i hi => (h3 i hi).1 (hall i hi)
   omega
  have small : ∀ i, i ∈ Region.ready .any ops listed → i < s := fun i hi => by
   obtain ⟨hnd, o, ho, hdir⟩ := (Zem h1).1 hi
   rcases Nat.lt_or_ge i s with hlt | hge
   ·exact hlt
   ·exfalso
    refine notall fun j hj => ZqW ok.dir (X := Zdi listed) h5 i o ho hdir j (ok.beh i hge (Array.getElem?_eq_some_iff.1 ho).1 j hj)
  rw [Nat.succ_add]
  refine ⟨fun hr => ?_, fun i hi => ?_⟩
  ·exfalso
   refine notall fun i => ?_
   induction i using Nat.strongRecOn with
   | _ i ihi =>
    intro hi
    rcases Classical.em (Zdi listed i) with hd | hd
    ·exact hd
    ·exfalso
     have hlt : i < ops.size := Nat.lt_of_lt_of_le hi ok.le
     have ho : ops[i]? = some (ops[i]'hlt) := by simp [hlt]
     have : i ∈ Region.ready .any ops listed := (Zem h1).2 ⟨hd, _, ho, fun k hk => ihi k (ok.dir i _ ho k hk) (by have := ok.dir i _ ho k hk; omega)⟩
     rw [hr] at this
     simp at this
  ·have his := small i hi
   obtain ⟨hnd, o, ho, hdir⟩ := (Zem h1).1 hi
   have hi1 : i ∈ Region.ready .any (ZiO ops s) listed1 := (Zem h2').2 ⟨fun hd => hnd ((h3 i his).2 hd), o, by rw [Zvo his]; exact ho, fun k hk => (h3 k (by have := ok.dir i o ho k hk; omega)).1 (hdir k hk)⟩
   refine ZwJ (ops1 := ops) ok his (fun c a w h => h) (fun h => h) (fun a' w' h' => ?_) (h.2 i hi1)
   have hlt : i < listed.size := by rw [h1]; exact (Array.getElem?_eq_some_iff.1 ho).1
   have hlt1 : i < listed1.size := by omega
   refine ih _ (listed1.setIfInBounds i true) a' w' (by simp [h1]) (by simp [h2]) (fun j hj => ?_) (fun j hj hd => ?_) (fun j oj hj hoj k hk => ?_) ?_ h'
   ·rw [Zhq hlt, Zhq hlt1, h3 j hj]
   ·rcases (Zhq hlt j).1 hd with h7 | h7
    ·exact h4 j hj h7
    ·omega
   ·rw [Zhq hlt] at hj ⊢
    rcases hj with hj | rfl
    ·exact .inl (h5 j oj hj hoj k hk)
    ·rw [ho] at hoj; injection hoj with hoj; subst hoj; exact .inl (hdir k hk)
   ·have hnd1 : ¬ Zdi listed1 i := fun hd => hnd ((h3 i his).2 hd)
    have hf : listed1.toList[i]'(by simpa using hlt1) = false := by unfold Zdi at hnd1; simpa [Array.getD, hlt1] using hnd1
    rw [Array.toList_setIfInBounds, List.count_set (by simpa using hlt1)]
    simp only [hf, h6, beq_self_eq_true, if_true]
    simp
theorem ZB8 (ok : SOk ops s) (ng : ∀ i (o : Oper), s ≤ i → ops[i]? = some o → o.guard = none) {Q : Exit → Act → World → Prop} :
  ∀ (fuel : Nat) (listed listed2 : Array Bool) (a : Act) (w : World), listed.size = ops.size → listed2.size = ops.size - s → (∀ i, i < s → Zdi listed i) → (∀ i, Zdi listed (s + i) ↔ Zdi listed2 i) →
   wpAny P .any (ZkM ops s) Q fuel listed2 a w → wpAny P .any ops Q fuel listed a w := by
 have rdy : ∀ (listed listed2 : Array Bool), listed.size = ops.size → listed2.size = ops.size - s → (∀ i, i < s → Zdi listed i) → (∀ i, Zdi listed (s + i) ↔ Zdi listed2 i) →
   ∀ i, i ∈ Region.ready .any ops listed ↔ s ≤ i ∧ i - s ∈ Region.ready .any (ZkM ops s) listed2 := fun listed listed2 h1 h2 h3 h4 i => by
  rw [Zem h1, Zem (by rw [h2, Zvx])]
  constructor
  ·rintro ⟨hnd, o, ho, hdir⟩
   have hge : s ≤ i := by
    rcases Nat.lt_or_ge i s with hlt | hge
    ·exact absurd (h3 i hlt) hnd
    ·exact hge
   have e : s + (i - s) = i := by omega
   refine ⟨hge, fun hd => hnd (by rw [← e]; exact (h4 _).2 hd), Zq8 s o, by rw [Zu2, e, ho]; rfl, fun k hk => (h4 k).1 (hdir _ ((ZsS o k).1 hk))⟩
  ·rintro ⟨hge, hnd, o2, ho2, hdir⟩
   have e : s + (i - s) = i := by omega
   rw [Zu2, e, Option.map_eq_some_iff] at ho2
   obtain ⟨o, ho, rfl⟩ := ho2
   refine ⟨fun hd => hnd ((h4 _).1 (by rw [e]; exact hd)), o, ho, fun k hk => ?_⟩
   rcases Nat.lt_or_ge k s with hlt | hge'
   ·exact h3 k hlt
   ·have e' : s + (k - s) = k := by omega
    rw [← e']
    exact (h4 _).2 (hdir _ ((ZsS o _).2 (by rw [e']; exact hk)))
 have empt : ∀ (listed listed2 : Array Bool), listed.size = ops.size → listed2.size = ops.size - s → (∀ i, i < s → Zdi listed i) → (∀ i, Zdi listed (s + i) ↔ Zdi listed2 i) →
   (Region.ready .any ops listed = [] ↔ Region.ready .any (ZkM ops s) listed2 = []) := fun listed listed2 h1 h2 h3 h4 => by
  rw [List.eq_nil_iff_forall_not_mem, List.eq_nil_iff_forall_not_mem]
  constructor
  ·intro h i hi
   exact h (s + i) ((rdy _ _ h1 h2 h3 h4 _).2 ⟨by omega, by rw [show s + i - s = i by omega]; exact hi⟩)
  ·intro h i hi
   exact h _ ((rdy _ _ h1 h2 h3 h4 _).1 hi).2
 intro fuel
 induction fuel with
 | zero =>
  intro listed listed2 a w h1 h2 h3 h4 h
  exact ⟨(empt _ _ h1 h2 h3 h4).2 h.1, h.2⟩
 | succ fuel ih =>
  intro listed listed2 a w h1 h2 h3 h4 h
  refine ⟨fun hr => h.1 ((empt _ _ h1 h2 h3 h4).1 hr), fun i hi => ?_⟩
  obtain ⟨hge, hi2⟩ := (rdy _ _ h1 h2 h3 h4 i).1 hi
  obtain ⟨hnd, o, ho, _⟩ := (Zem h1).1 hi
  have e : s + (i - s) = i := by omega
  have ho2 : (ZkM ops s)[i - s]? = some (Zq8 s o) := by rw [Zu2, e, ho]; rfl
  have hlt : i < listed.size := by rw [h1]; exact (Array.getElem?_eq_some_iff.1 ho).1
  have hlt2 : i - s < listed2.size := by omega
  have h7 := h.2 (i - s) hi2
  unfold wpOp at h7 ⊢
  rw [ho2] at h7
  rw [ho]
  simp only at h7 ⊢
  have hg := ng i o hge ho
  have hw : ∀ f, Region.wanted o f = true := fun f => by simp [Region.wanted, hg]
  have hw2 : ∀ f, Region.wanted (Zq8 s o) f = true := fun f => by simp [Region.wanted, Zq8, hg]
  rw [if_pos (hw _)]
  rw [if_pos (hw2 _)] at h7
  have hnext : ∀ a' w', wpAny P .any (ZkM ops s) Q fuel (listed2.setIfInBounds (i - s) true) a' w' → wpAny P .any ops Q fuel (listed.setIfInBounds i true) a' w' := fun a' w' h' => by
   refine ih _ _ a' w' (by simp [h1]) (by simp [h2]) (fun j hj => (Zhq hlt j).2 (.inl (h3 j hj))) (fun j => ?_) h'
   rw [Zhq hlt, Zhq hlt2, h4 j]
   constructor
   ·rintro (h | h)
    ·exact .inl h
    ·exact .inr (by omega)
   ·rintro (h | h)
    ·exact .inl h
    ·exact .inr (by omega)
  rcases h7 with h7 | h7
  ·exact .inl (Oper.wp_mono hnext h7)
  ·exact .inr h7
end
section
variable {P : Program} [Gl P] {L : Tab} (hL : TOk P L) {nt : Nat} {ops : Array Oper} {s : Nat}
theorem Zvs {f : Nat → Prop} : ∀ {l : List Nat}, ZCV f l → ∀ i ∈ l, f i
 | [], _, i, hi => absurd hi List.not_mem_nil
 | [j], h, i, hi => by rw [List.mem_singleton] at hi; subst hi; exact h
 | j :: k :: l, h, i, hi => by
  rcases List.mem_cons.1 hi with rfl | hi
  ·exact h.1
  ·exact Zvs h.2 i hi
include hL in
theorem ZBS (hnt : nt ≤ EXT) (hdir : ∀ i (o : Oper), ops[i]? = some o → ∀ j ∈ Zcs o, j < i) {df : List Deferred} {w0 : World} {M0 : Nat → Prop} {S0 : ZaA} {ρ0 : Nat → Nat} {K : AS → Prop} {Q : Exit → Act → World → Prop}
  (hQ : ∀ S' a' w', K S' → Zcv P nt df w0 M0 S0 ρ0 S' a' w' → Q .normal a' w') :
  ∀ (n : Nat) (rem : List Nat) (listed : Array Bool) (S : AS) (a : Act) (w : World), listed.size = ops.size → (∀ i, i < ops.size → (Zdi listed i ↔ i ∉ rem)) → rem.Nodup → (∀ i ∈ rem, i < ops.size) → rem.length = n →
   ZEa P L nt ops n rem S K → Zcv P nt df w0 M0 S0 ρ0 S a w → wpAny P .any ops Q n listed a w := by
 intro n
 induction n with
 | zero =>
  intro rem listed S a w h1 h2 h3 h4 h5 hk h
  have hr : rem = [] := List.eq_nil_of_length_eq_zero h5
  subst hr
  refine ⟨?_, hQ S a w hk.2 h⟩
  rw [List.eq_nil_iff_forall_not_mem]
  intro i hi
  obtain ⟨hnd, o, ho, _⟩ := (Zem h1).1 hi
  exact hnd ((h2 i (Array.getElem?_eq_some_iff.1 ho).1).2 List.not_mem_nil)
 | succ n ih =>
  intro rem listed S a w h1 h2 h3 h4 h5 hk h
  obtain ⟨rs, hrs, hall⟩ := hk
  have hrs : rs = ZBC ops rem := by simpa using hrs
  subst hrs
  refine ⟨fun hr => ?_, fun i hi => ?_⟩
  ·exfalso
   have alld : ∀ i, i < ops.size → Zdi listed i := fun i => by
    induction i using Nat.strongRecOn with
    | _ i ihi =>
     intro hi
     rcases Classical.em (Zdi listed i) with hd | hd
     ·exact hd
     ·exfalso
      have ho : ops[i]? = some (ops[i]'hi) := by simp [hi]
      have : i ∈ Region.ready .any ops listed := (Zem h1).2 ⟨hd, _, ho, fun k hk => ihi k (hdir i _ ho k hk) (by have := hdir i _ ho k hk; omega)⟩
      rw [hr] at this
      simp at this
   cases rem with
   | nil => simp at h5
   | cons i rem => exact (h2 i (h4 i (by simp))).1 (alld i (h4 i (by simp))) (by simp)
  ·obtain ⟨hnd, o, ho, hd⟩ := (Zem h1).1 hi
   have hio : i < ops.size := (Array.getElem?_eq_some_iff.1 ho).1
   have hir : i ∈ rem := by
    rcases Classical.em (i ∈ rem) with hm | hm
    ·exact hm
    ·exact absurd ((h2 i hio).2 hm) hnd
   have hrd : i ∈ ZBC ops rem := by
    unfold ZBC
    rw [List.mem_filter]
    refine ⟨hir, ?_⟩
    rw [ho]
    show (rem.all fun j => !(Zcs o).contains j) = true
    rw [List.all_eq_true]
    intro j hj
    simp only [Bool.not_eq_true', List.contains_eq_mem, decide_eq_false_iff_not]
    intro hjd
    exact (h2 j (h4 j hj)).1 (hd j hjd) hj
   have hone := Zvs hall i hrd
   unfold ZFA at hone
   rw [ho] at hone
   have hlt : i < listed.size := by rw [h1]; exact hio
   refine Zth hL hnt ho hone h fun T' a' w' hk' h' => ih (rem.erase i) _ T' a' w' (by simp [h1]) (fun j hj => ?_) (h3.erase i) (fun j hj => h4 j (List.mem_of_mem_erase hj)) (by rw [List.length_erase_of_mem hir]; omega) hk' h'
   rw [Zhq hlt, h2 j hj, List.Nodup.mem_erase_iff h3]
   constructor
   ·rintro (hh | rfl)
    ·exact fun hm => hh hm.2
    ·exact fun hm => hm.1 rfl
   ·intro hh
    by_cases he : j = i
    ·exact .inr he
    ·exact .inl fun hm => hh ⟨he, hm⟩
include hL in
theorem ZA6 (hnt : nt ≤ EXT) (hm : P.follows .mixedOrders = true) : ZuL P L nt (@ZsV) := by
 intro df w0 M0 S0 ρ0 id ops S a w K Q hk h hQ
 refine wp_region_any hm ?_
 have fin : ∀ (s : Nat), SOk ops s → ∀ K1 : AS → Prop, Zq7 P L nt (ZiO ops s) S K1 → (∀ S' a' w', K1 S' → Zcv P nt df w0 M0 S0 ρ0 S' a' w' → ∀ l : Array Bool, l.size = ops.size → (∀ i, Zdi l i ↔ i < s) → wpAny P .any ops Q (ops.size - s) l a' w') →
   wpAny P .any ops Q ops.size (Array.replicate ops.size false) a { w with drawn := w.drawn + 1 } := fun s ok K1 hk hK1 => by
  have h1 := ZpF hL hnt df w0 M0 S0 ρ0 (ZiO ops s) S a { w with drawn := w.drawn + 1 } _ (fun e a w => match e with | .normal => ∀ l : Array Bool, l.size = ops.size → (∀ i, Zdi l i ↔ i < s) → wpAny P .any ops Q (ops.size - s) l a w | e => Q e a w) hk h.drawn
   (fun S' a' w' hk' h' => hK1 S' a' w' hk' h')
  rw [Zv4 ok.le] at h1
  have h3 := ZyZ ok (Q := Q) s (Array.replicate ops.size false) (Array.replicate s false) a _ (by simp) (by simp) (fun i hi => ?_) (fun i hi hd => ?_) (fun j o hj => ?_) (by simp [List.count_replicate]) h1
  ·rw [show s + (ops.size - s) = ops.size by have := ok.le; omega] at h3
   exact h3
  ·unfold Zdi; simp [Array.getD, Array.getElem_replicate]
  ·unfold Zdi at hd; simp [Array.getD, Array.getElem_replicate] at hd
  ·exfalso; unfold Zdi at hj; simp [Array.getD, Array.getElem_replicate] at hj
 rcases hk with hk | ⟨s, hs, hk⟩ | ⟨s, tl, hs, hk⟩
 ·exact ZpF hL hnt df w0 M0 S0 ρ0 ops S a _ K Q hk h.drawn hQ
 ·obtain ⟨ok, ng⟩ := ZC2 hs
  refine fin s ok _ hk fun S' a' w' hk' h' l hl hd => ?_
  rw [Zgs] at hk'
  have h2 := ZpF hL hnt df w0 M0 S0 ρ0 (ZkM ops s) S' a' w' K Q hk' h' hQ
  rw [Zvx] at h2
  refine ZB8 ok ng _ l _ a' w' hl (by simp) (fun i hi => (hd i).2 hi) (fun i => ?_) h2
  rw [hd]
  unfold Zdi
  constructor
  ·intro hh; omega
  ·intro hh; exfalso; simp [Array.getD, Array.getElem_replicate] at hh
 ·rw [Bool.and_eq_true] at hs
  have ok := Zx1 hs.1
  have htl : tl = ZjC ops s := by simpa using hs.2
  subst htl
  refine fin s ok _ hk fun S' a' w' hk' h' l hl hd => ?_
  have hmem : ∀ i, i ∈ ZjC ops s ↔ s ≤ i ∧ i < ops.size := fun i => by
   unfold ZjC
   rw [List.mem_iff_getElem?]
   constructor
   ·rintro ⟨k, hk⟩
    rw [List.getElem?_drop] at hk
    have := List.getElem?_eq_some_iff.1 hk
    obtain ⟨h1, h2⟩ := this
    simp at h1 h2
    omega
   ·rintro ⟨h1, h2⟩
    refine ⟨i - s, ?_⟩
    rw [List.getElem?_drop, List.getElem?_range (by omega)]
    congr 1; omega
  have hlen : (ZjC ops s).length = ops.size - s := by unfold ZjC; simp
  rw [← hlen]
  refine ZBS hL hnt ok.dir hQ _ (ZjC ops s) l S' a' w' hl (fun i hi => ?_) ?_ (fun i hi => ((hmem i).1 hi).2) rfl hk' h'
  ·rw [hd, hmem]; omega
  ·unfold ZjC
   exact List.Nodup.sublist (List.drop_sublist _ _) List.nodup_range
end

theorem Zq.weak {P : Program} [Gl P] {f : FuncId} {args args' : List D} {bx bx' : ZbV} {K : D → ZbV → Prop} (r : Nat → Nat) (h : Zq P f args bx K) (hl : args'.length = args.length)
  (hw : WS r ⟨ZdY 0 args', bx'⟩ ⟨ZdY 0 args, bx⟩) : Zq P f args' bx' K :=
 ⟨h.1, fun w S0 M0 ZcM ρ hv hr => h.2 w S0 M0 ZcM ρ (hv.trans hl) (hr.weak hw)⟩
theorem Zq.weakRes {P : Program} [Gl P] {f : FuncId} {args : List D} {bx bx' : ZbV} {d' : D}
  (h : Zq P f args bx fun d b => ∃ r, WS r ⟨[(0, d)], b⟩ ⟨[(0, d')], bx'⟩) : Zq P f args bx fun d b => d = d' ∧ b = bx' :=
 ⟨h.1, fun w S0 M0 ZcM ρ hv hr => (h.2 w S0 M0 ZcM ρ hv hr).mono fun e w' ⟨v, d, b, St', ρ', h1, ⟨r, h2⟩, h4, h6⟩ =>
  ⟨v, d', bx', St', ρ', h1, ⟨rfl, rfl⟩, h4, h6.weak h2⟩⟩
structure AWP (P : Program) [Gl P] (nt : Nat) (c : Code) (Q : Exit → AS → Prop) (S : AS) : Prop where
 run : ∀ (df : List Deferred) (w0 : World) (M0 : Nat → Prop) (S0 : ZaA) (ρ0 : Nat → Nat) (a : Act) (w : World), Zcv P nt df w0 M0 S0 ρ0 S a w → c.wp P (ZqO P nt df w0 M0 S0 ρ0 Q) a w
section
variable {P : Program} [Gl P] {nt : Nat} {c x y : Code} {Q Q' : Exit → AS → Prop} {S T : AS}
theorem AWP.weak (r : Nat → Nat) (hw : WS r S T) (h : AWP P nt c Q T) : AWP P nt c Q S :=
 ⟨fun df w0 M0 S0 ρ0 a w ⟨h1, h2, St, ρ, h3, h4⟩ => h.run df w0 M0 S0 ρ0 a w ⟨h1, h2, St, ρ, h3.weak hw, h4⟩⟩
theorem AWP.conv (hr : ∀ (df : List Deferred) (w0 : World) (M0 : Nat → Prop) (S0 : ZaA) (ρ0 : Nat → Nat) (a : Act) (w : World), Zcv P nt df w0 M0 S0 ρ0 S a w → Zcv P nt df w0 M0 S0 ρ0 T a w) (h : AWP P nt c Q T) : AWP P nt c Q S :=
 ⟨fun df w0 M0 S0 ρ0 a w k => h.run df w0 M0 S0 ρ0 a w (hr df w0 M0 S0 ρ0 a w k)⟩
theorem AWP.trunc (n k l : Nat) {rows rows' : List (List E)} (hb : S.box n = some [(none, .ob (2 * k) rows)]) (hr : rows.take l = rows') (h : AWP P nt c Q (S.setBox n [(none, .ob (2 * k) rows')])) : AWP P nt c Q S := by
 subst hr
 exact h.conv fun df w0 M0 S0 ρ0 a w hr => hr.trunc hb
theorem AWP.mono (h : AWP P nt c Q S) (hq : ∀ e T, Q e T → Q' e T) : AWP P nt c Q' S :=
 ⟨fun df w0 M0 S0 ρ0 a w hr => wp_mono (h.run df w0 M0 S0 ρ0 a w hr) fun e a' w' ⟨T, d1, w1, M1, S1, h1, h2⟩ => ⟨T, d1, w1, M1, S1, hq e T h1, h2⟩⟩
theorem AWP.seq (h : AWP P nt x (Zo7 (AWP P nt y Q) Q) S) : AWP P nt (.seq x y) Q S :=
 ⟨fun df w0 M0 S0 ρ0 a w hr => wp_seq (wp_mono (h.run df w0 M0 S0 ρ0 a w hr) fun e a' w' ⟨T, d1, w1, M1, S1, hq, hb, h'⟩ => by
  cases e with
  | normal => exact wp_mono (hq.run _ _ _ _ _ _ _ h') fun _ _ _ => ZqT hb
  | exit id => exact ⟨T, d1, w1, M1, S1, hq, hb, h'⟩
  | goto l => exact ⟨T, d1, w1, M1, S1, hq, hb, h'⟩
  | ret => exact ⟨T, d1, w1, M1, S1, hq, hb, h'⟩
  | panic ch => exact ⟨T, d1, w1, M1, S1, hq, hb, h'⟩
  | outgrown => exact ⟨T, d1, w1, M1, S1, hq, hb, h'⟩)⟩
structure AWL (P : Program) [Gl P] (nt : Nat) (c : Code) (Q : Exit → AS → Prop) (S : AS) : Prop where
 run : ∀ (df : List Deferred) (w0 : World) (M0 : Nat → Prop) (S0 : ZaA) (ρ0 : Nat → Nat) (a : Act) (w : World), Zcv P nt df w0 M0 S0 ρ0 S a w → ∀ (b : Frame) (k : List Item) (cs : List Frame),
  ∃ e a' w', ZqO P nt df w0 M0 S0 ρ0 Q e a' w' ∧ Arrives P (lone (b.at a (.code c :: .inLoop c :: k)) cs w) b k cs e a' w'
theorem AWL.weak (r : Nat → Nat) (hw : WS r S T) (h : AWL P nt c Q T) : AWL P nt c Q S :=
 ⟨fun df w0 M0 S0 ρ0 a w ⟨h1, h2, St, ρ, h3, h4⟩ => h.run df w0 M0 S0 ρ0 a w ⟨h1, h2, St, ρ, h3.weak hw, h4⟩⟩
theorem AWL.conv (hr : ∀ (df : List Deferred) (w0 : World) (M0 : Nat → Prop) (S0 : ZaA) (ρ0 : Nat → Nat) (a : Act) (w : World), Zcv P nt df w0 M0 S0 ρ0 S a w → Zcv P nt df w0 M0 S0 ρ0 T a w) (h : AWL P nt c Q T) : AWL P nt c Q S :=
 ⟨fun df w0 M0 S0 ρ0 a w k => h.run df w0 M0 S0 ρ0 a w (hr df w0 M0 S0 ρ0 a w k)⟩
theorem AWP.loop (h : AWL P nt c Q S) : AWP P nt (.loop c) Q S := by
 refine ⟨fun df w0 M0 S0 ρ0 a w hr b k cs => ?_⟩
 obtain ⟨e, a', w', hq, harr⟩ := h.run df w0 M0 S0 ρ0 a w hr b k cs
 exact ⟨e, a', w', hq, .of_steps (.one step_loop) harr⟩
theorem AWL.step (h : AWP P nt c (Zo7 (AWL P nt c Q) Q) S) : AWL P nt c Q S := by
 refine ⟨fun df w0 M0 S0 ρ0 a w hr b k cs => ?_⟩
 obtain ⟨e, a₁, w₁, ⟨S₁, d1, w1, M1, S1, hq, hb, hr₁⟩, harr⟩ := h.run df w0 M0 S0 ρ0 a w hr b (.inLoop c :: k) cs
 cases e with
 | normal =>
  obtain ⟨e₂, a₂, w₂, hq₂, harr₂⟩ := hq.run d1 w1 M1 S1 ρ0 a₁ w₁ hr₁ b k cs
  exact ⟨e₂, a₂, w₂, ZqT hb hq₂, .of_steps (Steps.trans harr (.one step_inLoop)) harr₂⟩
 | exit id => exact ⟨_, a₁, w₁, ⟨S₁, d1, w1, M1, S1, hq, hb, hr₁⟩, .pass (x := .inLoop c) rfl (fun _ _ => .inl (by simp)) harr⟩
 | goto l => exact ⟨_, a₁, w₁, ⟨S₁, d1, w1, M1, S1, hq, hb, hr₁⟩, .pass (x := .inLoop c) rfl (fun _ _ => .inl (by simp)) harr⟩
 | ret => exact ⟨_, a₁, w₁, ⟨S₁, d1, w1, M1, S1, hq, hb, hr₁⟩, .pass (x := .inLoop c) rfl (fun _ _ => .inl (by simp)) harr⟩
 | panic ch => exact ⟨_, a₁, w₁, ⟨S₁, d1, w1, M1, S1, hq, hb, hr₁⟩, .pass (x := .inLoop c) rfl (fun _ _ => .inl (by simp)) harr⟩
 | outgrown => exact ⟨_, a₁, w₁, ⟨S₁, d1, w1, M1, S1, hq, hb, hr₁⟩, .pass (x := .inLoop c) rfl (fun _ _ => .inl (by simp)) harr⟩
theorem AWP.block {id : Nat} (h : AWP P nt c (Zph id Q) S) : AWP P nt (.block id c) Q S :=
 ⟨fun df w0 M0 S0 ρ0 a w hr => wp_block (wp_mono (h.run df w0 M0 S0 ρ0 a w hr) fun e a' w' ⟨S', d1, w1, M1, S1, hq, hb, h'⟩ => by
  cases e with
  | exit i =>
   simp only [Exit.inBlock, Zph] at hq ⊢
   by_cases hi : i = id
   ·rw [if_pos hi] at hq; rw [if_pos hi]; exact ⟨S', d1, w1, M1, S1, hq, hb, h'⟩
   ·rw [if_neg hi] at hq; rw [if_neg hi]; exact ⟨S', d1, w1, M1, S1, hq, hb, h'⟩
  | normal => exact ⟨S', d1, w1, M1, S1, hq, hb, h'⟩
  | goto l => exact ⟨S', d1, w1, M1, S1, hq, hb, h'⟩
  | ret => exact ⟨S', d1, w1, M1, S1, hq, hb, h'⟩
  | panic ch => exact ⟨S', d1, w1, M1, S1, hq, hb, h'⟩
  | outgrown => exact ⟨S', d1, w1, M1, S1, hq, hb, h'⟩)⟩
def ZxV (Q : Exit → AS → Prop) : Exit → AS → Prop
 | .goto _, _ => False
 | .normal, S => Q .normal S
 | .exit id, S => Q (.exit id) S
 | .ret, S => Q .ret S
 | .panic ch, S => Q (.panic ch) S
 | .outgrown, S => Q .outgrown S
theorem AWP.scope (h : AWP P nt c (ZxV Q) S) : AWP P nt (.scope c) Q S :=
 ⟨fun df w0 M0 S0 ρ0 a w hr => wp_scope_straight (wp_mono (h.run df w0 M0 S0 ρ0 a w hr) fun e a' w' ⟨T, d1, w1, M1, S1, hq, hb, h'⟩ => by
  cases e with
  | goto l => exact hq.elim
  | normal => exact ⟨T, d1, w1, M1, S1, hq, hb, h'⟩
  | exit id => exact ⟨T, d1, w1, M1, S1, hq, hb, h'⟩
  | ret => exact ⟨T, d1, w1, M1, S1, hq, hb, h'⟩
  | panic ch => exact ⟨T, d1, w1, M1, S1, hq, hb, h'⟩
  | outgrown => exact ⟨T, d1, w1, M1, S1, hq, hb, h'⟩)⟩
theorem AWP.cut (M : AS → Prop) (h : AWP P nt x (Zo7 M Q) S) (k : ∀ T, M T → AWP P nt y Q T) : AWP P nt (.seq x y) Q S :=
 AWP.seq (h.mono fun e T hq => by cases e <;> first | exact k T hq | exact hq)
def Zyd (M : AS → Prop) : Exit → AS → Prop
 | .normal, T => M T
 | _, _ => False
theorem AWP.cutN (M : AS → Prop) (h : AWP P nt x (Zyd M) S) (k : ∀ T, M T → Q .normal T) : AWP P nt x Q S :=
 h.mono fun e T hq => by cases e <;> first | exact k T hq | exact hq.elim
theorem ZzJ {w0 : World} {M0 : Nat → Prop} {S0 : ZaA} {a : Act} {w : World} {St : ZaA} {ρ : Nat → Nat} (h3 : ZQ P w0 M0 S0 S a.tmps w St ρ) {dst : Option Nat} {f : Operand} {args : List Operand} {K : AS → Prop} (hk : Zqa P nt S dst f args K) :
  ∃ (gf : Nat) (vf vc : Array Value) (fn : Func), a.eval f = .func (.func gf) vf vc ∧ P.funcs[gf]? = some fn ∧ (fn.name == "runtime.NumGoroutine") = false ∧ fn.body.isNone = false := by
 unfold Zqa at hk
 split at hk
 case h_2 => exact hk.elim
 rename_i g first cap hf
 obtain ⟨keep, nm, nw, hk⟩ := hk
 rw [ZfW] at hk
 split at hk
 case h_2 => exact hk.elim
 rename_i bx hbx
 obtain ⟨hd, hcall⟩ := hk
 rw [ZfW, Zjm] at hcall
 obtain ⟨vf, vc, hfv, _⟩ := Zqk h3 hf args
 obtain ⟨fn, h1, h2, h3⟩ := hcall.able
 exact ⟨g, vf, vc, fn, hfv, h1, h2, h3⟩
theorem AWP.rangeFunc {g : Operand} {ps : Array Nat} {assign body : Code} (h : ∀ l : Nat, Zqa P nt S none g [.const (.func (.yield l) #[] #[])] (Q .normal)) : AWP P nt (.rangeFunc g ps assign body) Q S := by
 refine ⟨fun df w0 M0 S0 ρ0 a w ⟨hdef, hsize, St, ρ, h3, h4⟩ => wpIn_wide.1 (wpIn_rangeFunc (F := Fence.wide) (n := 1) fun fn _ => ?_)⟩
 obtain ⟨rec, hrec⟩ : ∃ rec : LoopState → Loop, rec = fun st => { state := st, pending := none, fn := fn, tmps := a.tmps, params := ps, assign := assign, body := body, defers := w.heap.size } := ⟨_, rfl⟩
 obtain ⟨W1, hW1⟩ : ∃ W1, (w.alloc (.deferred (some []))).alloc (.loop (rec .ready)) = W1 := ⟨_, rfl⟩
 have hL1 : W1.heap[w.heap.size + 1]? = some (.loop (rec .ready)) := by
  rw [← hW1]; have := World.alloc_heap_new (w.alloc (.deferred (some []))) (.loop (rec .ready)); rwa [World.size_alloc] at this
 have hK1 : W1.heap[w.heap.size]? = some (.deferred (some [])) := by
  rw [← hW1]; exact (Below.heap_alloc _ _ _ (by simp)).trans (World.alloc_heap_new w _)
 have hr0 : ZQ P w0 M0 S0 S a.tmps W1 St ρ := by rw [← hW1]; exact (h3.alloc _).alloc _
 obtain ⟨hB, hr⟩ := hr0.fwd
 obtain ⟨gf, vf, vc, fn', hfv, hfn, hname, hbody⟩ := ZzJ h3 (h 0)
 have hm : (#[.const (.func (.yield (w.heap.size + 1)) #[] #[])] : Array Operand).map a.eval = #[.func (.yield (w.heap.size + 1)) #[] #[]] := by simp [Act.eval]
 obtain ⟨o, ho, hod⟩ : ∃ o : Oper, o.op = .call { callee := .value g, args := #[.const (.func (.yield (w.heap.size + 1)) #[] #[])], argTypes := #[] } ∧ o.dst = none := ⟨{ (default : Oper) with op := .call { callee := .value g, args := #[.const (.func (.yield (w.heap.size + 1)) #[] #[])], argTypes := #[] }, dst := none }, rfl, rfl⟩
 have hstep : o.wp P a W1 (fun a' w' => ∃ S', Q .normal S' ∧ Zcv P nt df W1 (ZDZ w0 M0 W1) St ρ0 S' a' w') (fun _ _ _ => False) :=
  Zqz (o := o) (K := Q .normal) ⟨hdef, hsize, St, ρ, hr, h4⟩ ho (by rw [hod]; exact h _) fun S' a' w' hk hr' => ⟨S', hk, hr'⟩
 have hrun : (execOp a.eval o).run P W1 = .ok (.enter gf (vf ++ #[.func (.yield (w.heap.size + 1)) #[] #[]] ++ vc)) W1 := by
  simp only [execOp, ho, resolve, hfv, hm, Deferred.ofValue, invoke, callFunc, Sem.run_bind, Sem.run_pure, Result.andThen_ok, run_program, hfn, hname, Bool.false_eq_true, if_false, hbody]
 unfold Oper.wp at hstep
 rw [hrun, Oper.upon_enter, hod] at hstep
 refine ⟨w.heap.size + 1, [ZxQ w.heap.size], W1, { target := .fn (.func gf) vc, args := vf ++ #[.func (.yield (w.heap.size + 1)) #[] #[]] }, W1, gf, vf ++ #[.func (.yield (w.heap.size + 1)) #[] #[]] ++ vc, W1, ?_, ?_, ?_, ?_, ?_, ?_⟩
 ·rw [← hW1, hrec]; exact run_enterLoop_outer _ _ _ _ _
 ·simp only [resolve, rangeCall, hfv, hm, Deferred.ofValue, Sem.run_pure]
 ·exact fun _ _ => trivial
 ·simp only [invoke, callFunc, Sem.run_bind, Sem.run_pure, Result.andThen_ok, run_program, hfn, hname, Bool.false_eq_true, if_false, hbody]
 ·exact fun _ => Nat.le_refl _
 ·refine callsIn_wide.2 (hstep.mono ?_)
  rintro e w2 he
  cases e with
  | panicked c => exact he.elim
  | outgrown => obtain ⟨_, _, h⟩ := he; exact h.elim
  | returned v =>
   obtain ⟨S', hq, hdef2, hsize2, St', ρ', h5, h6⟩ := he
   have hlt1 : w.heap.size + 1 < W1.heap.size := Zhd hL1
   have hlt0 : w.heap.size < W1.heap.size := Zhd hK1
   have hL2 : w2.heap[w.heap.size + 1]? = some (.loop (rec .ready)) := (h5.old _ hlt1 (fun hm => hm.1 ⟨_, hL1, rfl⟩)).trans hL1
   have hK2 : w2.heap[w.heap.size]? = some (.deferred (some [])) := (h5.old _ hlt0 (fun hm => hm.1 ⟨_, hK1, rfl⟩)).trans hK1
   have h7 : ZQ P w0 M0 S0 S' a.tmps (w2.putObj (w.heap.size + 1) (.loop { rec .ready with state := .exhausted })) St' ρ' :=
    (h5.back hB).putNd (Nat.le_trans h3.size (Nat.le_succ _)) ⟨_, hL2, rfl⟩ rfl
   have hK3 : (w2.putObj (w.heap.size + 1) (.loop { rec .ready with state := .exhausted })).heap[w.heap.size]? = some (.deferred (some [])) := (World.putObj_heap_other (by omega)).trans hK2
   obtain ⟨hB2, h8⟩ := h7.fwd
   refine ⟨none, _, ?_, S', ZxQ w.heap.size :: df, _, _, _, hq, .step (.refl ..) hB2 h3.size (Zhd hK3) (fun hm => hm.1 ⟨_, hK3, rfl⟩) hK3, ?_, hsize, St', ρ', h8, h6⟩
   ·have := run_endLoop (P := P) hL2 (by rw [hrec]; simp)
    rw [this, hrec]
   ·show [ZxQ w.heap.size] ++ a.defers = _; rw [hdef]; rfl
def node (Dr : Zsx) (P : Program) [Gl P] (L : Tab) (nt : Nat) : Code → (Exit → AS → Prop) → AS → Prop
 | .skip, Q, S => Q .normal S
 | .label _, Q, S => Q .normal S
 | .region _ ops draw, Q, S => if draw then Dr P L nt ops S (Q .normal) else ZmT P L nt ops ops.toList S (Q .normal)
 | .seq x y, Q, S => node Dr P L nt x (Zo7 (AWP P nt y Q) Q) S
 | .cond c x y, Q, S =>
  match S.ev c with
  | .c _ (.v (.bool b)) => ZgU b (AWP P nt x Q S) (AWP P nt y Q S)
  | _ => False
 | .block id c, Q, S => node Dr P L nt c (Zph id Q) S
 | .loop c, Q, S => AWL P nt c Q S
 | .exit id, Q, S => Q (.exit id) S
 | .ret, Q, S => Q .ret S
 | .rangeFunc g _ _ _, Q, S => ∀ l : Nat, Zqa P nt S none g [.const (.func (.yield l) #[] #[])] (Q .normal)
 | _, _, _ => False
theorem AWP.node {Dr : Zsx} {L : Tab} (hL : TOk P L) (hnt : nt ≤ EXT) (hD : ZuL P L nt Dr) : ∀ (c : Code) (Q : Exit → AS → Prop) (S : AS), Am.node Dr P L nt c Q S → AWP P nt c Q S
 | .skip, Q, S, hk => ⟨fun df w0 M0 S0 ρ0 a w h => wp_skip (Zn4 ⟨S, hk, h⟩)⟩
 | .label l, Q, S, hk => ⟨fun df w0 M0 S0 ρ0 a w h => wp_label (Zn4 ⟨S, hk, h⟩)⟩
 | .exit id, Q, S, hk => ⟨fun df w0 M0 S0 ρ0 a w h => wp_exit (Zn4 ⟨S, hk, h⟩)⟩
 | .ret, Q, S, hk => ⟨fun df w0 M0 S0 ρ0 a w h => wp_ret (Zn4 ⟨S, hk, h⟩)⟩
 | .region id ops draw, Q, S, hk => ⟨fun df w0 M0 S0 ρ0 a w h => by
   have : awp Dr P L nt (.region id ops draw) Q S := hk
   exact wp_mono (Zjc hL hnt hD _ Q S a w this h) fun _ _ _ => Zn4⟩
 | .seq x y, Q, S, hk => AWP.seq (AWP.node hL hnt hD x _ S hk)
 | .cond c x y, Q, S, hk => ⟨fun df w0 M0 S0 ρ0 a w h => by
   simp only [Am.node] at hk
   split at hk
   ·rename_i tk b hc
    have hv : a.eval c = .bool b := by
     obtain ⟨_, _, St, ρ, h3, _⟩ := h
     have := ZbL h3 c
     rw [hc] at this
     exact (ZfF (d := .c tk (.v (.bool b))) this rfl).1
    refine wp_cond hv ?_
    cases b with
    | true => exact AWP.run hk _ _ _ _ _ _ _ h
    | false => exact AWP.run hk _ _ _ _ _ _ _ h
   ·exact hk.elim⟩
 | .block id c, Q, S, hk => AWP.block (AWP.node hL hnt hD c _ S hk)
 | .loop c, Q, S, hk => AWP.loop hk
 | .rangeFunc .., Q, S, hk => AWP.rangeFunc hk
 | .scope _, Q, S, hk => hk.elim
 | .goto _, Q, S, hk => hk.elim
 | .refuse _, Q, S, hk => hk.elim
end
def Code.sub : Code → List Nat → Code
 | c, [] => c
 | .seq x y, i :: p => match i with | 0 => Code.sub x p | _ => Code.sub y p
 | .cond _ x y, i :: p => match i with | 0 => Code.sub x p | _ => Code.sub y p
 | .block _ c, _ :: p => Code.sub c p
 | .loop c, _ :: p => Code.sub c p
 | .scope c, _ :: p => Code.sub c p
 | c, _ => c
def Code.cont (P : Program) [Gl P] (nt : Nat) : Code → List Nat → (Exit → AS → Prop) → (Exit → AS → Prop)
 | _, [], Q => Q
 | .seq x y, i :: p, Q => match i with | 0 => Code.cont P nt x p (Zo7 (AWP P nt y Q) Q) | _ => Code.cont P nt y p Q
 | .cond _ x y, i :: p, Q => match i with | 0 => Code.cont P nt x p Q | _ => Code.cont P nt y p Q
 | .block id c, _ :: p, Q => Code.cont P nt c p (Zph id Q)
 | .loop c, _ :: p, Q => Code.cont P nt c p (Zo7 (AWL P nt c Q) Q)
 | .scope c, _ :: p, Q => Code.cont P nt c p (ZxV Q)
 | _, _, Q => Q

section
variable {P : Program} {ops : Array Oper}
theorem ZoJ {Q : Exit → Act → World → Prop} {l2 : List Nat} : ∀ (l1 : List Nat) (a : Act) (w : World), wpOps P ops (fun e a w => match e with | .normal => wpOps P ops Q l2 a w | e => Q e a w) l1 a w → wpOps P ops Q (l1 ++ l2) a w
 | [], a, w, h => h
 | i :: l1, a, w, h => by
  rw [List.cons_append, wpOps_cons]
  rw [wpOps_cons] at h
  unfold wpOp at h ⊢
  cases ho : ops[i]? with
  | none => rw [ho] at h; exact ZoJ l1 a w h
  | some o =>
   rw [ho] at h
   simp only at h ⊢
   split
   ·rename_i hw
    rw [if_pos hw] at h
    rcases h with h | ⟨h1, h2⟩
    ·exact .inl (Zwe (fun c a w h => h) (fun h => h) (Oper.wp_mono (fun a w h => ZoJ l1 a w h) h))
    ·exact .inr ⟨h1, h2⟩
   ·rename_i hw
    rw [if_neg hw] at h
    exact ZoJ l1 _ w h
end
def ZrW (P : Program) (g : Nat) : Prop := (∃ fn, P.funcs[g]? = some fn ∧ (fn.name == "runtime.NumGoroutine") = false ∧ fn.body.isNone = false) ∧
 ∀ (n : Nat) (args : Array Value) (w : World) (R : Ending → FrameMode → World → Prop), (∀ v, R (.returned v) .returning w) → CallsDIn Fence.wide n P g args .returning w R
theorem Zt4 {P : Program} {g : Nat} {fn : Func} {id t2 t3 : Nat} {o1 o2 : Oper} {X : Code} (hf : P.funcs[g]? = some fn) (hname : (fn.name == "runtime.NumGoroutine") = false)
  (hb : fn.body = some (.seq (.region id #[o1, o2] false) (.cond (.tmp t3) X .skip))) (h1 : o1.op = .call { callee := .builtin .recover, args := #[], argTypes := #[] }) (h2 : ∀ (ρ : Operand → Value) (w : World), ρ (.tmp t2) = .nilIface → ρ (.const .nilIface) = .nilIface → (execOp ρ o2).run P w = .ok (.value (.bool false)) w)
  (hg1 : o1.guard = none) (hg2 : o2.guard = none) (hd1 : o1.dst = some t2) (hd2 : o2.dst = some t3) (hlt2 : t2 < fn.ntmps) (hlt3 : t3 < fn.ntmps) (hres : fn.results = #[]) : ZrW P g := by
 refine ⟨⟨fn, hf, hname, by rw [hb]; rfl⟩, fun n args w R hR => ?_⟩
 refine callsDIn_of_wpSIn hf hb trivial fun c₀ cs hc => ?_
 refine wpSIn_seq (wpSIn_region ?_)
 show wpOpsSIn _ _ _ _ _ [0, 1] _ _ _
 have hsz : ({ tmps := args ++ Array.replicate (fn.ntmps - args.size) undef, defers := [] } : Act).tmps.size ≥ fn.ntmps := by simp; omega
 have hdf : ({ tmps := args ++ Array.replicate (fn.ntmps - args.size) undef, defers := [] } : Act).defers = [] := rfl
 generalize ({ tmps := args ++ Array.replicate (fn.ntmps - args.size) undef, defers := [] } : Act) = a at hsz hdf ⊢
 have e0 : (#[o1, o2] : Array Oper)[0]? = some o1 := rfl
 have e1 : (#[o1, o2] : Array Oper)[1]? = some o2 := rfl
 have w1 : ∀ f, Region.wanted o1 f = true := fun f => by simp [Region.wanted, hg1]
 have w2 : ∀ f, Region.wanted o2 f = true := fun f => by simp [Region.wanted, hg2]
 have r1 : (execOp a.eval o1).run P w = .ok .recover w := by simp [execOp, h1, resolve, invoke, builtin, Sem.run_pure, go_sem]
 have rc : recoverD (c₀ :: cs) = none := by simp [recoverD, hc]
 have v2 : (a.put o1.dst .nilIface).eval (.tmp t2) = .nilIface := by
  rw [hd1]
  show (a.tmps.setIfInBounds t2 .nilIface).getD t2 undef = .nilIface
  simp [Array.getD, show t2 < a.tmps.size by omega]
 have vc : (a.put o1.dst .nilIface).eval (.const .nilIface) = .nilIface := rfl
 have r2 : (execOp (a.put o1.dst .nilIface).eval o2).run P w = .ok (.value (.bool false)) w := h2 _ _ v2 vc
 simp only [wpOpsSIn, e0, e1]
 refine ⟨fun _ _ => trivial, ?_⟩
 rw [if_pos (w1 _), r1]
 simp only [rc]
 refine ⟨fun _ _ => trivial, ?_⟩
 rw [if_pos (w2 _), r2]
 simp only
 show (Code.cond (.tmp t3) X .skip).wpSIn _ _ _ _ _ _ _
 refine wpSIn_cond (t := false) ?_ (wpSIn_of_wpIn rfl (wpIn_skip ?_))
 ·rw [hd2]
  show (((a.put o1.dst .nilIface).tmps).setIfInBounds t3 (.bool false)).getD t3 undef = .bool false
  have : (a.put o1.dst .nilIface).tmps.size = a.tmps.size := by rw [hd1]; show (a.tmps.setIfInBounds t2 .nilIface).size = _; simp
  simp [Array.getD, show t3 < (a.put o1.dst .nilIface).tmps.size by omega]
 ·refine ⟨by rw [Zhg, Zhg]; exact hdf, .returning, ?_, .tuple #[], ?_, hR _⟩
  ·rw [← hc]
  ·simp [results, hres, Sem.run_bind, Sem.run_pure, Result.andThen_ok]
section
variable {P : Program} [Gl P] {nt : Nat} {Q : Exit → AS → Prop} {S : AS}
theorem AWP.deferReg {L : Tab} (hL : TOk P L) (hnt : nt ≤ EXT) {id : Nat} {ops : Array Oper} {o : Oper} (hops : ops.toList = ops.toList.dropLast ++ [o]) (ho : o.guard = none ∧ o.dst = none) {f : Operand} (hop : o.op = .defer { callee := .value f, args := #[], argTypes := #[] })
  (h : ZmT P L nt ops ops.toList.dropLast S fun S' => ∃ (g : Nat) (ZpA : List D), (S'.ev f).fn? = some (g, [], ZpA) ∧ ZrW P g ∧ Q .normal S') : AWP P nt (.region id ops false) Q S := by
 generalize hinit : ops.toList.dropLast = init at hops h
 refine ⟨fun df w0 M0 S0 ρ0 a w hr => wp_region ?_⟩
 have hsz : ops.size = init.length + 1 := by rw [← Array.length_toList, hops]; simp
 have hlast : ops[init.length]? = some o := by rw [← Array.getElem?_toList, hops]; simp
 rw [hsz, List.range_succ]
 refine ZoJ _ a w ?_
 refine Zjl (Q := fun e a w => match e with | .normal => wpOps P ops (ZqO P nt df w0 M0 S0 ρ0 Q) [init.length] a w | e => ZqO P nt df w0 M0 S0 ρ0 Q e a w) hL hnt ops
  (K := fun S' => ∃ (g : Nat) (ZpA : List D), (S'.ev f).fn? = some (g, [], ZpA) ∧ ZrW P g ∧ Q .normal S') (fun S' a' w' hk' h' => ?_) init (List.range init.length) S a w ?_ h hr
 ·obtain ⟨g, ZpA, hf, ⟨⟨fn, h1, h2, h3⟩, hq⟩, hQ⟩ := hk'
  obtain ⟨hdef, hsize, St, ρ, h4, h5⟩ := h'
  obtain ⟨vf, vc, hfv, hl1, hl2, _⟩ := Zqk h4 hf []
  have hvf : vf = #[] := Array.eq_empty_of_size_eq_zero hl1.symm
  subst hvf
  show wpOps P ops _ [init.length] a' w'
  rw [wpOps_cons]
  unfold wpOp
  rw [hlast]
  have hw : Region.wanted o (yielded ops a'.tmps) = true := by simp [Region.wanted, ho.1]
  simp only
  rw [if_pos hw]
  refine .inl ?_
  unfold Oper.wp
  have hrun : (execOp a'.eval o).run P w' = .ok (.defer { target := .fn (.func g) vc, args := #[] }) w' := by
   simp [execOp, hop, resolve, hfv, Deferred.ofValue, Sem.run_bind, Sem.run_pure, Result.andThen_ok]
  rw [hrun, Oper.upon_defer, ho.2]
  refine ⟨S', { target := .fn (.func g) vc, args := #[] } :: df, w0, M0, S0, hQ, .quiet (.refl ..) (fun n w R hR => ?_), ?_⟩
  ·refine ⟨.func g, vc, g, vc, rfl, ?_, hq n vc w R hR⟩
   simp only [invoke, callFunc, Sem.run_bind, Sem.run_pure, Result.andThen_ok, run_program, h1, h2, Bool.false_eq_true, if_false, h3]
   simp
  ·exact ⟨by rw [← hdef]; rfl, hsize, St, ρ, h4, h5⟩
 ·apply List.ext_getElem?
  intro i
  simp only [List.getElem?_map]
  by_cases hi : i < init.length
  ·have e : ops[i]? = init[i]? := by rw [← Array.getElem?_toList, hops, List.getElem?_append_left hi]
   rw [List.getElem?_range hi, List.getElem?_eq_getElem hi]
   show some (ops[i]?) = some (some _)
   rw [e, List.getElem?_eq_getElem hi]
  ·rw [List.getElem?_eq_none (by simpa using hi), List.getElem?_eq_none (by omega)]; rfl
end

def ZaK (p : Prop) [Decidable p] : Option Unit := if p then some () else none
def ixI {α : Type} (l : List α) (i : Int) : Option α := if 0 ≤ i then l[i.toNat]? else none
def btI (s : ByteArray) (i : Int) : Option UInt8 := if 0 ≤ i then s[i.toNat]? else none
def slL {α : Type} (s : List α) (l h : Int) : Option (List α) := if 0 ≤ l ∧ l ≤ h ∧ h ≤ s.length then some ((s.take h.toNat).drop l.toNat) else none
theorem ZcL {xs bs all : List Nat} {U S : AS} (h1 : Zv3 S xs = Zv3 U xs) (h2 : Zws S bs = Zws U bs) (h3 : (ZyG all S.tmps && ZyH all S.boxes) = true) : ck xs bs all U S := ⟨h1, h2, h3⟩
def Zeq {α β : Type} [BEq α] (k : α) : List (α × β) → Option β
 | [] => none
 | p :: m => if (k == p.1) = true then some p.2 else Zeq k m
def ZbW {α β : Type} [BEq α] (m : List (α × β)) (z : β) (k : α) : Option (β × Bool) := match Zeq k m with | some v => some (v, true) | none => some (z, false)
def Ze0 {α β : Type} [BEq α] : List (α × β) → α → β → List (α × β)
 | [], k, v => [(k, v)]
 | p :: m, k, v => if (k == p.1) = true then (k, v) :: m else p :: Ze0 m k v
def Zv {α β : Type} (ek : α → List E) (ev : β → List E) (p : α × β) : List E := ek p.1 ++ ev p.2
structure Zna {α : Type} [BEq α] (ek : α → List E) : Prop where
 eq : ∀ a b, Ziu (ek a) (ek b) = some (a == b)
 one : ∀ a, (ek a).length = 1
theorem ZBv {k : IntKind} : Zna (fun x : Int => [E.v (.int k x)]) := ⟨fun a b => by simp [Ziu], fun _ => rfl⟩
theorem ZwD : Zna (fun x : ByteArray => [E.v (.string x)]) := ⟨fun a b => by simp [Ziu], fun _ => rfl⟩
theorem ZvV {α β : Type} [BEq α] {ek : α → List E} (hk : Zna ek) {ev : β → List E} (p : α × β) : (Zv ek ev p).take 1 = ek p.1 ∧ (Zv ek ev p).drop 1 = ev p.2 := by
 unfold Zv
 rw [← hk.one p.1]
 simp
theorem Zsg {α β : Type} [BEq α] {ek : α → List E} (hk : Zna ek) {ev : β → List E} (k : α) : ∀ m : List (α × β), Zlf 1 (ek k) (m.map (Zv ek ev)) = some ((Zeq k m).map ev)
 | [] => rfl
 | p :: m => by
  obtain ⟨h1, h2⟩ := ZvV hk (ev := ev) p
  simp only [List.map_cons, Zlf, h1, h2, hk.eq, Zeq]
  cases hb : k == p.1 with
  | true => simp
  | false => simpa using Zsg hk k m
theorem Zs3 {α β : Type} [BEq α] {ek : α → List E} (hk : Zna ek) {ev : β → List E} (k : α) (v : β) : ∀ m : List (α × β), ZnZ 1 (ek k) (ev v) (m.map (Zv ek ev)) = some ((Ze0 m k v).map (Zv ek ev))
 | [] => rfl
 | p :: m => by
  obtain ⟨h1, h2⟩ := ZvV hk (ev := ev) p
  simp only [List.map_cons, ZnZ, h1, hk.eq, Ze0]
  cases hb : k == p.1 with
  | true => simp [Zv]
  | false => simp [Zs3 hk k v m]
theorem ZdG {α β : Type} [BEq α] {m : List (α × β)} {k : α} {v : β} {ek : α → List E} (hk : Zna ek) {ev : β → List E} {cells : List E} (hw : WL cells (ev v)) {K : List (List E) → Prop} (h : K ((Ze0 m k v).map (Zv ek ev))) :
  ∃ val' rows', WL cells val' ∧ ZnZ 1 (ek k) val' (m.map (Zv ek ev)) = some rows' ∧ K rows' := ⟨ev v, _, hw, Zs3 hk k v m, h⟩
theorem Zcr {α β : Type} [BEq α] {m : List (α × β)} {k : α} {ek : α → List E} (hk : Zna ek) {ev : β → List E} {z : β} {r : β × Bool} (h : ZbW m z k = some r) {cells : List E} (hv : ev r.1 = cells) {n : Nat} (hn : ∀ x, (ev x).length = n) {zc : List E} {zero : Option (List E)} (hz : zero = some zc) (hzl : zc.length = n) (hzw : WL zc (ev z))
  {K : Bool → List E → Prop} (hK : K r.2 cells) :
  ∃ cells ok cells', Zlf 1 (ek k) (m.map (Zv ek ev)) = some (bif ok then some cells else none) ∧ (ok = false → zero = some cells) ∧ cells.length = n ∧ WL cells cells' ∧ K ok cells' := by
 unfold ZbW at h
 cases hf : Zeq k m with
 | some v =>
  rw [hf] at h
  injection h with h
  subst h
  exact ⟨ev v, true, cells, by rw [Zsg hk, hf]; rfl, fun h => (by cases h), hn v, (by rw [← hv]; exact WL.refl _), hK⟩
 | none =>
  rw [hf] at h
  injection h with h
  subst h
  exact ⟨zc, false, cells, by rw [Zsg hk, hf]; rfl, fun _ => hz, hzl, (by rw [← hv]; exact hzw), hK⟩
theorem bind_some {α β : Type} {a : Option α} {f : α → Option β} {r : β} (h : (a >>= f) = some r) : ∃ x, a = some x ∧ f x = some r := by
 cases a with
 | none => cases h
 | some x => exact ⟨x, rfl, h⟩
theorem Zx {p : Prop} [Decidable p] {β : Type} {f : Unit → Option β} {r : β} (h : (ZaK p >>= f) = some r) : p ∧ f () = some r := by
 unfold ZaK at h
 split at h
 ·rename_i hp; exact ⟨hp, h⟩
 ·cases h
theorem Zlj {α β : Type} {l : List α} {i : Int} {f : α → Option β} {r : β} (h : (ixI l i >>= f) = some r) : ∃ x, 0 ≤ i ∧ l[i.toNat]? = some x ∧ f x = some r := by
 obtain ⟨x, hx, hf⟩ := bind_some h
 unfold ixI at hx
 split at hx
 ·exact ⟨x, by assumption, hx, hf⟩
 ·cases hx
theorem ZrO {β : Type} {s : ByteArray} {i : Int} {f : UInt8 → Option β} {r : β} (h : (btI s i >>= f) = some r) : ∃ x, 0 ≤ i ∧ s[i.toNat]? = some x ∧ f x = some r := by
 obtain ⟨x, hx, hf⟩ := bind_some h
 unfold btI at hx
 split at hx
 ·exact ⟨x, by assumption, hx, hf⟩
 ·cases hx
theorem ZzW {α β : Type} {s : List α} {l h : Int} {f : List α → Option β} {r : β} (hh : (slL s l h >>= f) = some r) : ∃ t, 0 ≤ l ∧ l ≤ h ∧ h ≤ ((s.length : Nat) : Int) ∧ t = (s.take h.toNat).drop l.toNat ∧ f t = some r := by
 obtain ⟨x, hx, hf⟩ := bind_some hh
 unfold slL at hx
 split at hx
 ·rename_i hc; injection hx with hx; exact ⟨x, hc.1, hc.2.1, hc.2.2, hx.symm, hf⟩
 ·cases hx
theorem Ze {α : Type} {x r : α} (h : some x = some r) : x = r := Option.some.inj h
theorem Zj7 {k n : Nat} (h : decide (((k : Nat) : Int) < ((n : Nat) : Int)) = true) : k < n := by simpa using h
theorem Zx6 {b : Bool} {α : Type} {x y r : α} (hb : b = true) (h : (if b = true then x else y) = r) : x = r := by rwa [if_pos hb] at h
theorem ZxL {b : Bool} {α : Type} {x y r : α} (hb : b = false) (h : (if b = true then x else y) = r) : y = r := by subst hb; simpa using h
theorem ZyO {b : Bool} {A B : Prop} {α : Type} {x y : Option α} {r : α} (h : (if b = true then x else y) = some r) (h1 : b = true → x = some r → A) (h2 : b = false → y = some r → B) : ZgU b A B := by
 cases b
 ·exact h2 rfl (by simpa using h)
 ·exact h1 rfl (by simpa using h)
theorem Zpa {b : Bool} {A B : Prop} (want : Bool) (h1 : b = true → (match want with | true => A | false => B)) (h2 : b = false → (match want with | true => B | false => A)) : ZiP b want A B := by
 cases b <;> cases want
 ·exact h2 rfl
 ·exact h2 rfl
 ·exact h1 rfl
 ·exact h1 rfl
theorem ZvN {α : Type} {l pre post : List α} {k : Nat} {A B : Prop} (h : l = pre ++ post) (hk : k = pre.length) (h1 : ∀ x post', post = x :: post' → l[k]? = some x → k < l.length → A) (h2 : post = [] → B) :
  ZgU (decide (((k : Nat) : Int) < ((l.length : Nat) : Int))) A B := by
 subst hk
 cases post with
 | nil =>
  have : decide (((pre.length : Nat) : Int) < ((l.length : Nat) : Int)) = false := by subst h; simp
  rw [this]; exact h2 rfl
 | cons x post' =>
  have hlt : pre.length < l.length := by subst h; simp
  have : decide (((pre.length : Nat) : Int) < ((l.length : Nat) : Int)) = true := by simpa using hlt
  rw [this]; exact h1 x post' rfl (by subst h; simp) hlt
theorem Zaf {α : Type} {f : α → List E} {n : Nat} (l : List α) (h : ∀ x, (f x).length = n) : ∀ row ∈ l.map f, row.length = n := by
 intro row hr
 obtain ⟨x, _, rfl⟩ := List.mem_map.1 hr
 exact h x
theorem Zzv {n : Nat} : ∀ row ∈ ([] : List (List E)), row.length = n := fun _ h => absurd h List.not_mem_nil
theorem Zr {α : Type} {f : α → List E} {l : List α} {k : Nat} {x : α} {row : List E} (hc : f x = row) (h : l[k]? = some x) : (l.map f)[((k : Nat) : Int).toNat]? = some row := by
 show (l.map f)[k]? = some row
 rw [List.getElem?_map, h, Option.map_some, hc]
theorem Zjz {α : Type} {f : α → List E} {l : List α} {i : Int} {x : α} {row : List E} (hc : f x = row) (h : l[i.toNat]? = some x) : (l.map f)[i.toNat]? = some row := by
 rw [List.getElem?_map, h, Option.map_some, hc]
theorem ZcJ {n k : Nat} (h : n ≤ maxLen) (hk : k < n) : IntKind.i64.wrap (((k : Nat) : Int) + 1) = (((k + 1 : Nat) : Nat) : Int) := by
 have e : IntKind.i64.wrap ((k : Int) + 1) = (k : Int) + 1 := by
  exact IntWalk.i64_in ((k : Int) + 1) ⟨by omega, by unfold maxLen at h; omega⟩
 rw [e]; rfl
theorem Zn8 {k : Nat} (hk : k + 1 ≤ 9223372036854775807) : IntKind.i64.wrap (((k : Nat) : Int) + 1) = (((k + 1 : Nat) : Nat) : Int) := by
 have e : IntKind.i64.wrap ((k : Int) + 1) = (k : Int) + 1 := by
  exact IntWalk.i64_in ((k : Int) + 1) ⟨by omega, by omega⟩
 rw [e]; rfl
theorem ZwB {α : Type} {g : α → List E} {s t : List α} {l h : Int} (ht : t = (s.take h.toNat).drop l.toNat) : ((s.map g).take h.toNat).drop l.toNat = t.map g := by
 rw [ht, List.map_drop, List.map_take]
def rn (l : List (Nat × Nat)) (n : Nat) : Nat := (Z2 l n).getD n
section
variable {r : Nat → Nat} {S T : AS} {e e' : E} {tk : Option (Nat × Nat)}
theorem AWP.cutE {P : Program} [Gl P] {nt : Nat} {x : Code} {Q : Exit → AS → Prop} {S : AS} (T : AS) (h : AWP P nt x (Zyd fun U => ∃ r, WS r U T) S) (k : Q .normal T) : AWP P nt x Q S :=
 ⟨fun df w0 M0 S0 ρ0 a w hr => wp_mono (h.run df w0 M0 S0 ρ0 a w hr) fun e a' w' ⟨U, d1, w1, M1, S1, hq, hb, h'⟩ => by
  cases e with
  | normal =>
   obtain ⟨r, hw⟩ := hq
   obtain ⟨h1, h2, St, ρ, h3, h4⟩ := h'
   exact ⟨T, d1, w1, M1, S1, k, hb, h1, h2, St, ρ, h3.weak hw, h4⟩
  | _ => exact hq.elim⟩
theorem ZzT {x y : Bool} (h : x = y) : WE (.v (.bool x)) (.v (.bool y)) := h ▸ .refl _
theorem ZeC {k : IntKind} {x y : Int} (h : x = y) : WE (.v (.int k x)) (.v (.int k y)) := h ▸ .refl _
theorem ZcZ : WTs r S [] := trivial
theorem ZcI {i : Nat} {d : D} {l : List (Nat × D)} (h : WD r (S.get i) d) (k : WTs r S l) : WTs r S ((i, d) :: l) := ⟨h, k⟩
theorem Zkv {d : D} : WD r d .bot := by cases d <;> first | trivial | (rename_i tk _; cases tk <;> trivial)
theorem Zc7 (k : WE e e') : WD r (.c tk e) (.c none e') := ⟨by cases tk <;> trivial, .inl k⟩
theorem ZhJ {s t q : Nat} (h : r s = t) (k : WE e e') : WD r (.c (some (s, q)) e) (.c (some (t, q)) e') := ⟨⟨h, rfl⟩, .inl k⟩
theorem ZkP {t q : Nat} : WD r (.c none .nils) (.c (some (t, q)) (.sl [])) := ⟨trivial, .inl .nil⟩
theorem Zit {s t q : Nat} (h : r s = t) : WD r (.c (some (s, q)) .nils) (.c (some (t, q)) (.sl [])) := ⟨⟨h, rfl⟩, .inl .nil⟩
theorem ZgG {a b : List E} (h : WL a b) : WD r (.agg a) (.agg b) := h
theorem Zkl {a b : List E} (h : WL a b) : WD r (.ref a) (.ref b) := h
theorem ZkL {a b : List X} (h : WXs a b) : WD r (.tup a) (.tup b) := h
theorem ZqJ {n o : Nat} : WD r (.ptr n o) (.ptr n o) := ⟨rfl, rfl⟩
theorem Zn : WL [] [] := trivial
theorem Zce {x y : E} {xs ys : List E} (h : WE x y) (k : WL xs ys) : WL (x :: xs) (y :: ys) := ⟨h, k⟩
theorem ZkN : WXs [] [] := trivial
theorem Zk2 {xs ys : List X} (h : WE e e') (k : WXs xs ys) : WXs (.c e :: xs) (.c e' :: ys) := ⟨h, k⟩
theorem Zke {a b : List E} {xs ys : List X} (h : WL a b) (k : WXs xs ys) : WXs (.agg a :: xs) (.agg b :: ys) := ⟨h, k⟩
theorem ZcA : WCs r [] [] := trivial
theorem Zf2 {xs ys : List Cell} (h : WE e e') (k : WCs r xs ys) : WCs r ((tk, e) :: xs) ((none, e') :: ys) := ⟨⟨by cases tk <;> trivial, .inl h⟩, k⟩
theorem Zkf {s t q : Nat} {xs ys : List Cell} (h0 : r s = t) (h : WE e e') (k : WCs r xs ys) : WCs r ((some (s, q), e) :: xs) ((some (t, q), e') :: ys) := ⟨⟨⟨h0, rfl⟩, .inl h⟩, k⟩
theorem ZfT {t q : Nat} {xs ys : List Cell} (k : WCs r xs ys) : WCs r ((none, .nils) :: xs) ((some (t, q), .sl []) :: ys) := ⟨⟨trivial, .inl .nil⟩, k⟩
theorem Zc6 : WBs r S [] := trivial
theorem ZcN {n : Nat} {ds cs : List Cell} {l : ZbV} (h0 : S.box n = some ds) (h : WCs r ds cs) (k : WBs r S l) : WBs r S ((n, cs) :: l) := ⟨by unfold WB; rw [h0]; exact h, k⟩
theorem Zp {α : Type} {f : α → List E} : WE (.sl []) (.sl (([] : List α).map f)) := .refl _
theorem ZH {α : Type} {f : α → List E} {row : List E} {rows : List (List E)} {x : α} {xs : List α} (h : WL row (f x)) (k : WE (.sl rows) (.sl (xs.map f))) : WE (.sl (row :: rows)) (.sl ((x :: xs).map f)) := by
 have := WE.app (WE.row h) k
 exact this
theorem ZpY {row a b : List E} (h : b = a) (k : WL row a) : WL row b := h ▸ k
end
def ZB0 (d' : D) (bx' : ZbV) (d : D) (b : ZbV) : Prop := ∃ r, WS r ⟨[(0, d)], b⟩ ⟨[(0, d')], bx'⟩
def ZnK (fn : Func) : Code := fn.body.getD .skip
theorem enter {P : Program} [Gl P] {L : Tab} (hL : TOk P L) {f : FuncId} {fn : Func} (hf : P.funcs[f]? = some fn) (hb : fn.body.isSome = true) (hname : (fn.name == "runtime.NumGoroutine") = false)
  {args : List D} {bx bx' : ZbV} {d' : D} (hargs : args.length ≤ fn.ntmps)
  (hk : AWP P fn.ntmps (ZnK fn) (Zzp L fn.results (ZB0 d' bx')) ⟨ZdY 0 args, bx⟩) : Zq P f args bx fun d b => d = d' ∧ b = bx' := by
 refine Zq.weakRes ?_
 obtain ⟨c, hc⟩ := Option.isSome_iff_exists.1 hb
 have hbo : ZnK fn = c := by unfold ZnK; rw [hc]; rfl
 rw [hbo] at hk
 exact ZBH hL hf hc hname hargs hk.run
def ZbF (G G' : Prop) : Prop := G' → G
theorem ZbF.side {A B G' : Prop} (a : A) (r : ZbF B G') : ZbF (A ∧ B) G' := fun g => ⟨a, r g⟩
theorem ZbF.done {G : Prop} : ZbF G G := id
theorem ZbF.free {α β : Type} {A B C : α → β → Prop} {G' : Prop} {v : α} {s : β} (a : A v s) (b : B v s) (c : ZbF (C v s) G') : ZbF (∃ v s, A v s ∧ B v s ∧ C v s) G' := fun g => ⟨v, s, a, b, c g⟩
theorem st {G G' : Prop} (h : G') (s : ZbF G G' := by
  (repeat (first | ((conv => (arg 1; whnf)); (with_reducible apply ZbF.side); (focus (first | exact Eq.refl _ | exact trivial | (with_reducible assumption) | (with_reducible exact Int.natCast_nonneg _) | exact Nat.le_of_ble_eq_true (Eq.refl true) | exact ZcL (Eq.refl _) (Eq.refl _) (Eq.refl _) | decide)))))
  (conv => (arg 1; whnf))
  exact ZbF.done) : G := s h
theorem sr {A G G' : Prop} (e : A) (h : G') (s : A → ZbF G G' := by
  intro e
  (repeat (first | ((conv => (arg 1; whnf)); (with_reducible apply ZbF.side); (focus (first | exact Eq.refl _ | exact trivial | (with_reducible assumption) | (with_reducible exact Int.natCast_nonneg _) | exact Nat.le_of_ble_eq_true (Eq.refl true) | exact ZcL (Eq.refl _) (Eq.refl _) (Eq.refl _) | decide))) | ((conv => (arg 1; whnf)); rw [e])))
  (conv => (arg 1; whnf))
  exact ZbF.done) : G := s e h
theorem dp {G G' : Prop} (h : G') (s : ZbF G G' := by
  (repeat (first | ((conv => (arg 1; whnf)); (with_reducible apply ZbF.side); (focus (first | exact Eq.refl _ | exact trivial | (with_reducible assumption) | (with_reducible exact Int.natCast_nonneg _) | exact Nat.le_of_ble_eq_true (Eq.refl true) | exact ZcL (Eq.refl _) (Eq.refl _) (Eq.refl _) | decide)))))
  (conv => (arg 1; whnf))
  with_reducible apply ZbF.free
  (focus (((repeat (first | ((conv => whnf); (with_reducible refine And.intro ?_ ?_); (focus (first | exact Eq.refl _ | exact trivial | (with_reducible assumption) | (with_reducible exact Int.natCast_nonneg _) | exact Nat.le_of_ble_eq_true (Eq.refl true) | exact ZcL (Eq.refl _) (Eq.refl _) (Eq.refl _) | decide))))); (conv => whnf)) <;> (exact rfl)))
  (focus exact rfl)
  (conv => (arg 1; whnf))
  exact ZbF.done) : G := s h
theorem dr {A G G' : Prop} (e : A) (h : G') (s : A → ZbF G G' := by
  intro e
  (repeat (first | ((conv => (arg 1; whnf)); (with_reducible apply ZbF.side); (focus (first | exact Eq.refl _ | exact trivial | (with_reducible assumption) | (with_reducible exact Int.natCast_nonneg _) | exact Nat.le_of_ble_eq_true (Eq.refl true) | exact ZcL (Eq.refl _) (Eq.refl _) (Eq.refl _) | decide)))))
  (conv => (arg 1; whnf))
  with_reducible apply ZbF.free
  (focus ((((repeat (first | ((conv => whnf); (with_reducible refine And.intro ?_ ?_); (focus (first | exact Eq.refl _ | exact trivial | (with_reducible assumption) | (with_reducible exact Int.natCast_nonneg _) | exact Nat.le_of_ble_eq_true (Eq.refl true) | exact ZcL (Eq.refl _) (Eq.refl _) (Eq.refl _) | decide))))); (conv => whnf)) <;> (rw [e]) <;> ((repeat (first | ((conv => whnf); (with_reducible refine And.intro ?_ ?_); (focus (first | exact Eq.refl _ | exact trivial | (with_reducible assumption) | (with_reducible exact Int.natCast_nonneg _) | exact Nat.le_of_ble_eq_true (Eq.refl true) | exact ZcL (Eq.refl _) (Eq.refl _) (Eq.refl _) | decide))))); (conv => whnf)) <;> (exact rfl))))
  (focus exact rfl)
  (conv => (arg 1; whnf))
  exact ZbF.done) : G := s e h
theorem dl {G G' : Prop} (h : G') (s : ZbF G G' := by
  (repeat (first | ((conv => (arg 1; whnf)); (with_reducible apply ZbF.side); (focus (first | exact Eq.refl _ | exact trivial | (with_reducible assumption) | (with_reducible exact Int.natCast_nonneg _) | exact Nat.le_of_ble_eq_true (Eq.refl true) | exact ZcL (Eq.refl _) (Eq.refl _) (Eq.refl _) | decide)))))
  (conv => (arg 1; whnf))
  with_reducible apply ZbF.free
  (focus ((((repeat (first | ((conv => whnf); (with_reducible refine And.intro ?_ ?_); (focus (first | exact Eq.refl _ | exact trivial | (with_reducible assumption) | (with_reducible exact Int.natCast_nonneg _) | exact Nat.le_of_ble_eq_true (Eq.refl true) | exact ZcL (Eq.refl _) (Eq.refl _) (Eq.refl _) | decide))))); (conv => whnf)) <;> (intro hlen0; (try rw [List.length_map])) <;> ((repeat (first | ((conv => whnf); (with_reducible refine And.intro ?_ ?_); (focus (first | exact Eq.refl _ | exact trivial | (with_reducible assumption) | (with_reducible exact Int.natCast_nonneg _) | exact Nat.le_of_ble_eq_true (Eq.refl true) | exact ZcL (Eq.refl _) (Eq.refl _) (Eq.refl _) | decide))))); (conv => whnf)) <;> (exact rfl))))
  (focus exact rfl)
  (conv => (arg 1; whnf))
  exact ZbF.done) : G := s h
theorem de {A G G' : Prop} (e : A) (h : G') (s : A → ZbF G G' := by
  intro e
  (repeat (first | ((conv => (arg 1; whnf)); (with_reducible apply ZbF.side); (focus (first | exact Eq.refl _ | exact trivial | (with_reducible assumption) | (with_reducible exact Int.natCast_nonneg _) | exact Nat.le_of_ble_eq_true (Eq.refl true) | exact ZcL (Eq.refl _) (Eq.refl _) (Eq.refl _) | decide)))))
  (conv => (arg 1; whnf))
  with_reducible apply ZbF.free
  (focus ((((repeat (first | ((conv => whnf); (with_reducible refine And.intro ?_ ?_); (focus (first | exact Eq.refl _ | exact trivial | (with_reducible assumption) | (with_reducible exact Int.natCast_nonneg _) | exact Nat.le_of_ble_eq_true (Eq.refl true) | exact ZcL (Eq.refl _) (Eq.refl _) (Eq.refl _) | decide))))); (conv => whnf)) <;> (refine Exists.intro _ (And.intro e ?_)) <;> ((repeat (first | ((conv => whnf); (with_reducible refine And.intro ?_ ?_); (focus (first | exact Eq.refl _ | exact trivial | (with_reducible assumption) | (with_reducible exact Int.natCast_nonneg _) | exact Nat.le_of_ble_eq_true (Eq.refl true) | exact ZcL (Eq.refl _) (Eq.refl _) (Eq.refl _) | decide))))); (conv => whnf)) <;> (exact rfl))))
  (focus exact rfl)
  (conv => (arg 1; whnf))
  exact ZbF.done) : G := s e h
theorem s3 {A B C G G' : Prop} (a : A) (b : B) (c : C) (h : G') (s : A → B → C → ZbF G G' := by
  intro a b c
  (repeat (first | ((conv => (arg 1; whnf)); (with_reducible apply ZbF.side); (focus (first | exact Eq.refl _ | exact trivial | (with_reducible assumption) | (with_reducible exact Int.natCast_nonneg _) | exact Nat.le_of_ble_eq_true (Eq.refl true) | exact ZcL (Eq.refl _) (Eq.refl _) (Eq.refl _) | decide))) | ((with_reducible apply ZbF.side); (focus (first | exact a | exact b | exact c)))))
  exact ZbF.done) : G := s a b c h
theorem e3 {α β γ : Type} {K : List α → List β → List γ → Prop} (h : K [] [] []) : ∃ a b c, K a b c := ⟨[], [], [], h⟩
theorem cm {P : Program} [Gl P] {f : FuncId} {args : List D} {bx b0 : ZbV} {d0 : D} {K : D → ZbV → Prop} (h : Zq P f args bx fun d b => d = d0 ∧ b = b0) (k : K d0 b0) : Zq P f args bx K :=
 Zq.mono h fun d b hh => by obtain ⟨rfl, rfl⟩ := hh; exact k
theorem ift {A : Prop} {b : Bool} {α : Type} {x y r : α} (a : A) (h : (if b = true then x else y) = r) (hb : A → b = true := by intro a; first | assumption | exact Eq.refl _ | simp only [a, Bool.and_true, Bool.true_and, Bool.and_false, Bool.false_and, Bool.or_true, Bool.true_or, Bool.or_false, Bool.false_or, Bool.not_true, Bool.not_false, cond_true, cond_false, List.length_map]) : x = r := Zx6 (hb a) h
theorem ife {A : Prop} {b : Bool} {α : Type} {x y r : α} (a : A) (h : (if b = true then x else y) = r) (hb : A → b = false := by intro a; first | assumption | exact Eq.refl _ | simp only [a, Bool.and_true, Bool.true_and, Bool.and_false, Bool.false_and, Bool.or_true, Bool.true_or, Bool.or_false, Bool.false_or, Bool.not_true, Bool.not_false, cond_true, cond_false, List.length_map]) : y = r := ZxL (hb a) h
theorem ZrY {A : Prop} {b : Bool} {α : Type} {x y r : α} (a : A) (h : (if b = true then x else y) = r) (hb : A → b = true := by intro a; first | assumption | exact Eq.refl _ | (simp only [a, Bool.and_true, Bool.true_and, Bool.and_false, Bool.false_and, Bool.or_true, Bool.true_or, Bool.or_false, Bool.false_or, Bool.not_true, Bool.not_false, cond_true, cond_false, List.length_map]; done) | ((try simp only [Bool.and_true, Bool.true_and, Bool.and_false, Bool.false_and, Bool.or_true, Bool.true_or, Bool.or_false, Bool.false_or, Bool.not_true, Bool.not_false, cond_true, cond_false, List.length_map] at a); (try simp only [Bool.and_true, Bool.true_and, Bool.and_false, Bool.false_and, Bool.or_true, Bool.true_or, Bool.or_false, Bool.false_or, Bool.not_true, Bool.not_false, cond_true, cond_false, List.length_map]); simp only [a, Bool.and_true, Bool.true_and, Bool.and_false, Bool.false_and, Bool.or_true, Bool.true_or, Bool.or_false, Bool.false_or, Bool.not_true, Bool.not_false, cond_true, cond_false, List.length_map])) : x = r := Zx6 (hb a) h
theorem Zpw {A : Prop} {b : Bool} {α : Type} {x y r : α} (a : A) (h : (if b = true then x else y) = r) (hb : A → b = false := by intro a; first | assumption | exact Eq.refl _ | (simp only [a, Bool.and_true, Bool.true_and, Bool.and_false, Bool.false_and, Bool.or_true, Bool.true_or, Bool.or_false, Bool.false_or, Bool.not_true, Bool.not_false, cond_true, cond_false, List.length_map]; done) | ((try simp only [Bool.and_true, Bool.true_and, Bool.and_false, Bool.false_and, Bool.or_true, Bool.true_or, Bool.or_false, Bool.false_or, Bool.not_true, Bool.not_false, cond_true, cond_false, List.length_map] at a); (try simp only [Bool.and_true, Bool.true_and, Bool.and_false, Bool.false_and, Bool.or_true, Bool.true_or, Bool.or_false, Bool.false_or, Bool.not_true, Bool.not_false, cond_true, cond_false, List.length_map]); simp only [a, Bool.and_true, Bool.true_and, Bool.and_false, Bool.false_and, Bool.or_true, Bool.true_or, Bool.or_false, Bool.false_or, Bool.not_true, Bool.not_false, cond_true, cond_false, List.length_map])) : y = r := ZxL (hb a) h
section
variable {P : Program} [Gl P] {nt : Nat} {c x y : Code} {Q : Exit → AS → Prop} {S T : AS}
theorem sq (h : AWP P nt x (Zo7 (AWP P nt y Q) Q) S) : AWP P nt (.seq x y) Q S := AWP.seq h
theorem bk {id : Nat} (h : AWP P nt c (Zph id Q) S) : AWP P nt (.block id c) Q S := AWP.block h
theorem lo (h : AWL P nt c Q S) : AWP P nt (.loop c) Q S := AWP.loop h
theorem lp (h : AWP P nt c (Zo7 (AWL P nt c Q) Q) S) : AWL P nt c Q S := AWL.step h
theorem lv (r : Nat → Nat) (h : AWL P nt c Q T) (hw : WS r S T) : AWL P nt c Q S := AWL.weak r hw h
end
theorem an {a b : Prop} (h : a) (k : b) : a ∧ b := ⟨h, k⟩
theorem lm {α β : Type} {l : List α} (f : α → β) : (l.map f).length = l.length := List.length_map f
theorem xe3 {α β γ : Type} {K : α → β → γ → Prop} (a : α) (b : β) (c : γ) (h : K a b c) : ∃ a b c, K a b c := ⟨a, b, c, h⟩
theorem ea {α : Type} {p q : α → Prop} {a : α} (h : p a) (k : q a) : ∃ a, p a ∧ q a := ⟨a, h, k⟩
theorem web {A : Prop} {x y : Bool} (a : A) (h : A → x = y := by intro a; first | exact Eq.refl _ | (simp only [a, Bool.and_true, Bool.true_and, Bool.and_false, Bool.false_and, Bool.or_true, Bool.true_or, Bool.or_false, Bool.false_or, Bool.not_true, Bool.not_false, cond_true, cond_false, List.length_map]; done) | (simp only [Bool.and_true, Bool.true_and, Bool.and_false, Bool.false_and, Bool.or_true, Bool.true_or, Bool.or_false, Bool.false_or, Bool.not_true, Bool.not_false, cond_true, cond_false, List.length_map, ↓reduceIte] at a ⊢; simp only [a, Bool.and_true, Bool.true_and, Bool.and_false, Bool.false_and, Bool.or_true, Bool.true_or, Bool.or_false, Bool.false_or, Bool.not_true, Bool.not_false, cond_true, cond_false, List.length_map]; done) | (exfalso; simp only [beq_iff_eq, beq_eq_false_iff_ne, ne_eq, decide_eq_true_eq, decide_eq_false_iff_not] at a; omega)) : WE (.v (.bool x)) (.v (.bool y)) := ZzT (h a)
theorem wei {A : Prop} {k : IntKind} {x y : Int} (a : A) (h : A → x = y := by intro a; first | exact Eq.refl _ | (simp only [a, Bool.and_true, Bool.true_and, Bool.and_false, Bool.false_and, Bool.or_true, Bool.true_or, Bool.or_false, Bool.false_or, Bool.not_true, Bool.not_false, cond_true, cond_false, List.length_map]; done) | (simp only [Bool.and_true, Bool.true_and, Bool.and_false, Bool.false_and, Bool.or_true, Bool.true_or, Bool.or_false, Bool.false_or, Bool.not_true, Bool.not_false, cond_true, cond_false, List.length_map, ↓reduceIte] at a ⊢; simp only [a, Bool.and_true, Bool.true_and, Bool.and_false, Bool.false_and, Bool.or_true, Bool.true_or, Bool.or_false, Bool.false_or, Bool.not_true, Bool.not_false, cond_true, cond_false, List.length_map]; done) | (exfalso; simp only [beq_iff_eq, beq_eq_false_iff_ne, ne_eq, decide_eq_true_eq, decide_eq_false_iff_not] at a; omega)) : WE (.v (.int k x)) (.v (.int k y)) := ZeC (h a)
section
variable {r : Nat → Nat} {S T : AS} {e : E} {tk : Option (Nat × Nat)}
theorem tc {i : Nat} {l : List (Nat × D)} (k : WTs r S l) (h : WD r (S.get i) (.c none e) := by exact Zc7 (WE.refl _)) : WTs r S ((i, .c none e) :: l) := ⟨h, k⟩
theorem tp {i n o : Nat} {l : List (Nat × D)} (k : WTs r S l) (h : WD r (S.get i) (.ptr n o) := by exact ZqJ) : WTs r S ((i, .ptr n o) :: l) := ⟨h, k⟩
theorem lc {xs ys : List E} (k : WL xs ys) : WL (e :: xs) (e :: ys) := ⟨.refl _, k⟩
theorem cc {xs ys : List Cell} (k : WCs r xs ys) : WCs r ((tk, e) :: xs) ((none, e) :: ys) := Zf2 (.refl _) k
end
theorem Zw3 : ∀ cs : List Cell, WCs (rn []) cs cs
 | [] => trivial
 | (none, e) :: cs => ⟨⟨trivial, .inl (.refl e)⟩, Zw3 cs⟩
 | (some q, e) :: cs => ⟨⟨⟨rfl, rfl⟩, .inl (.refl e)⟩, Zw3 cs⟩
theorem Znh {d : D} : WD (rn []) d d := WD.refl d
theorem Zn5 {r : Nat → Nat} {S : AS} {n : Nat} {cs : List Cell} {l : ZbV} (h : WB r (S.box n) cs) (k : WBs r S l) : WBs r S ((n, cs) :: l) := ⟨h, k⟩
theorem Znf {cs : List Cell} : WB (rn []) (some cs) cs := Zw3 cs
theorem ZiL {r : Nat → Nat} {ds cs : List Cell} (h : WCs r ds cs) : WB r (some ds) cs := h
def tkl : List Cell → Bool
 | [] => true
 | (none, _) :: l => tkl l
 | _ => false
theorem ZiH {r : Nat → Nat} : ∀ {cs : List Cell}, tkl cs = true → WB r (some cs) cs
 | [], _ => trivial
 | (none, e) :: cs, h => ⟨⟨trivial, .inl (.refl e)⟩, ZiH (cs := cs) h⟩
 | (some q, e) :: cs, h => by cases h
theorem Zep {n k : Nat} (hk : k < n) (h : n ≤ maxLen) : IntKind.i64.wrap (((k : Nat) : Int) + 1) = (((k + 1 : Nat) : Nat) : Int) := ZcJ h hk
theorem ZbF.call {P : Program} [Gl P] {f : FuncId} {args args' : List D} {bx bx' b0 : ZbV} {d0 : D} {K : D → ZbV → Prop} (h : Zq P f args bx fun d b => d = d0 ∧ b = b0) (r : Nat → Nat) (hl : args'.length = args.length) (hw : WS r ⟨ZdY 0 args', bx'⟩ ⟨ZdY 0 args, bx⟩) (k : K d0 b0) : Zq P f args' bx' K :=
 cm (Zq.weak r h hl hw) k
section
variable {P : Program} [Gl P] {nt : Nat} {c : Code} {Q : Exit → AS → Prop} {S T : AS}
theorem zja (h : AWP P nt c Q T) (hw : WS (rn []) S T := by
  (refine WS.mk ?_ ?_ <;> (repeat' (first | exact ZcZ | exact Zc6 | (refine ZcI ?_ ?_; (focus ((conv => (arg 2; whnf)); first | with_reducible exact Znh | with_reducible exact Zc7 (WE.refl _) | with_reducible exact Zc7 (ZeC (Zep (by assumption) (by assumption))) | with_reducible exact Zc7 (ZeC (ZcJ (by assumption) (by assumption))) | exact Znh | exact Zc7 (WE.refl _) | exact ZhJ rfl (WE.refl _) | exact Zc7 WE.nil | exact ZkP | exact Zit rfl | exact Zkv | (refine ZgG ?_; (repeat' (first | exact Zn | refine lc ?_ | refine Zce WE.nil ?_))) | (refine ZkL ?_; (repeat' (first | exact ZkN | refine Zk2 (WE.refl _) ?_ | refine Zk2 WE.nil ?_ | refine Zke ?_ ?_ | exact Zn | refine lc ?_ | refine Zce WE.nil ?_))) | (refine Zkl ?_; (repeat' (first | exact Zn | refine lc ?_ | refine Zce WE.nil ?_)))))) | (refine Zn5 ?_ ?_; (focus ((conv => (arg 2; whnf)); first | with_reducible exact Znf | exact Znf | (refine ZiL ?_; (repeat' (first | exact ZcA | refine cc ?_ | refine Zf2 (ZeC (Zep (by assumption) (by assumption))) ?_ | refine Zf2 (ZeC (ZcJ (by assumption) (by assumption))) ?_ | refine Zf2 WE.nil ?_ | refine Zkf rfl (WE.refl _) ?_ | refine ZfT ?_)))))))))) : AWP P nt c Q S := AWP.weak _ hw h
theorem zwy (hw : WS (rn []) S T := by
  (refine WS.mk ?_ ?_ <;> (repeat' (first | exact ZcZ | exact Zc6 | (refine ZcI ?_ ?_; (focus ((conv => (arg 2; whnf)); first | with_reducible exact Znh | with_reducible exact Zc7 (WE.refl _) | with_reducible exact Zc7 (ZeC (Zep (by assumption) (by assumption))) | with_reducible exact Zc7 (ZeC (ZcJ (by assumption) (by assumption))) | exact Znh | exact Zc7 (WE.refl _) | exact ZhJ rfl (WE.refl _) | exact Zc7 WE.nil | exact ZkP | exact Zit rfl | exact Zkv | (refine ZgG ?_; (repeat' (first | exact Zn | refine lc ?_ | refine Zce WE.nil ?_))) | (refine ZkL ?_; (repeat' (first | exact ZkN | refine Zk2 (WE.refl _) ?_ | refine Zk2 WE.nil ?_ | refine Zke ?_ ?_ | exact Zn | refine lc ?_ | refine Zce WE.nil ?_))) | (refine Zkl ?_; (repeat' (first | exact Zn | refine lc ?_ | refine Zce WE.nil ?_)))))) | (refine Zn5 ?_ ?_; (focus ((conv => (arg 2; whnf)); first | with_reducible exact Znf | exact Znf | (refine ZiL ?_; (repeat' (first | exact ZcA | refine cc ?_ | refine Zf2 (ZeC (Zep (by assumption) (by assumption))) ?_ | refine Zf2 (ZeC (ZcJ (by assumption) (by assumption))) ?_ | refine Zf2 WE.nil ?_ | refine Zkf rfl (WE.refl _) ?_ | refine ZfT ?_)))))))))) : ∃ r, WS r S T := ⟨_, hw⟩
end
theorem zcw {P : Program} [Gl P] {nt : Nat} {x c : Code} {Q Q' : Exit → AS → Prop} {S : AS} (T : AS) (h : AWP P nt x (Zyd fun U => ∃ r, WS r U T) S) (k : AWP P nt c Q' T) (e : ∀ U, AWP P nt c Q' U → Q .normal U := by intro U h; exact h) : AWP P nt x Q S :=
 AWP.cutN _ h fun U ⟨r, hw⟩ => e U (AWP.weak r hw k)
def zi1 : List (Nat × Nat) := [(1000, 1000)]
def zi3 : List (Nat × Nat) := [(1000, 1000), (1001, 1001), (1002, 1002)]
def zi5 : List (Nat × Nat) := [(1000, 1000), (1001, 1001), (1002, 1002), (1003, 1003), (1004, 1004)]
theorem zlh {α : Type} {l pre xs : List α} {x : α} (h : l = pre ++ x :: xs) : l = (pre ++ [x]) ++ xs := by rw [h]; simp
theorem zlk {α : Type} {k : Nat} {pre : List α} {x : α} (h : k = pre.length) : k + 1 = (pre ++ [x]).length := by rw [h]; simp
def ZDT : List Nat → Nat → List Nat
 | [], _ => []
 | x :: l, m => bif Nat.beq (m % 2) 1 then x :: ZDT l (m / 2) else ZDT l (m / 2)
def zhm (l ms : List Nat) : List (List Nat × List Nat × List Nat) := ms.map fun m => (ZDT l m, [], [])
def ZuY : List Nat → (List Nat → Prop) → Prop
 | [], K => K []
 | x :: l, K => ZuY l fun l' => K (x :: l')
theorem Zup : ∀ (l : List Nat) (K : List Nat → Prop), ZuY l K = K l
 | [], _ => rfl
 | x :: l, K => by simp only [ZuY, Zup l]
def ZrM : List (List Nat × List Nat × List Nat) → (List (List Nat × List Nat × List Nat) → Prop) → Prop
 | [], K => K []
 | (h, b, c) :: l, K => ZuY h fun h => ZrM l fun l' => K ((h, b, c) :: l')
theorem Zr6 : ∀ (l : List (List Nat × List Nat × List Nat)) (K : List (List Nat × List Nat × List Nat) → Prop), ZrM l K = K l
 | [], _ => rfl
 | (h, b, c) :: l, K => by simp only [ZrM, Zup, Zr6 l]
def kpT (S : AS) (n : List (Nat × D)) : List Nat → List (Nat × D)
 | [] => n
 | i :: ts => (i, S.get i) :: kpT S n ts
def kpB (S : AS) : List Nat → ZbV
 | [] => []
 | m :: bs => match S.box m with
  | some cs => (m, cs) :: kpB S bs
  | none => kpB S bs
def AS.kp (S : AS) (ts bs : List Nat) (n : List (Nat × D)) : AS := ⟨kpT S n ts, kpB S bs⟩
theorem zck {P : Program} [Gl P] {nt : Nat} {x c : Code} {Q Q' : Exit → AS → Prop} {S : AS} (ts bs : List Nat) (n : List (Nat × D)) (h : AWP P nt x (Zyd fun U => ∃ r, WS r U (S.kp ts bs n)) S) (k : ZeL (S.kp ts bs n) (AWP P nt c Q')) (e : ∀ U, AWP P nt c Q' U → Q .normal U := by intro U h; exact h) : AWP P nt x Q S := by
 rw [Zgs] at k
 exact AWP.cutN _ h fun U ⟨r, hw⟩ => e U (AWP.weak r hw k)
section
variable {S T : AS}
theorem zwe (hw : WS (rn []) S T := by
  (refine WS.mk ?_ ?_ <;> (repeat' (first | exact ZcZ | exact Zc6 | (refine ZcI ?_ ?_; (focus ((conv => (arg 2; whnf)); first | with_reducible exact Znh | with_reducible exact Zc7 (WE.refl _) | with_reducible exact Zc7 (ZeC (Zep (by assumption) (by assumption))) | with_reducible exact Zc7 (ZeC (ZcJ (by assumption) (by assumption))) | (with_reducible refine Zc7 (ZzT ?_); (first | exact Eq.refl _ | (simp only [*, Bool.and_true, Bool.true_and, Bool.and_false, Bool.false_and, Bool.or_true, Bool.true_or, Bool.or_false, Bool.false_or, Bool.not_true, Bool.not_false, cond_true, cond_false, List.length_map, ↓reduceIte]; done) | (simp_all only [Bool.and_true, Bool.true_and, Bool.and_false, Bool.false_and, Bool.or_true, Bool.true_or, Bool.or_false, Bool.false_or, Bool.not_true, Bool.not_false, cond_true, cond_false, List.length_map, ↓reduceIte]; done) | (exfalso; simp only [beq_iff_eq, beq_eq_false_iff_ne, ne_eq, decide_eq_true_eq, decide_eq_false_iff_not] at *; omega))) | exact Znh | exact Zc7 (WE.refl _) | exact ZhJ rfl (WE.refl _) | exact Zc7 WE.nil | exact ZkP | exact Zit rfl | exact Zkv | (refine ZgG ?_; (repeat' (first | exact Zn | refine lc ?_ | refine Zce WE.nil ?_))) | (refine ZkL ?_; (repeat' (first | exact ZkN | refine Zk2 (WE.refl _) ?_ | refine Zk2 WE.nil ?_ | refine Zke ?_ ?_ | exact Zn | refine lc ?_ | refine Zce WE.nil ?_))) | (refine Zkl ?_; (repeat' (first | exact Zn | refine lc ?_ | refine Zce WE.nil ?_))) | (refine Zc7 (ZzT ?_); (first | exact Eq.refl _ | (simp only [*, Bool.and_true, Bool.true_and, Bool.and_false, Bool.false_and, Bool.or_true, Bool.true_or, Bool.or_false, Bool.false_or, Bool.not_true, Bool.not_false, cond_true, cond_false, List.length_map, ↓reduceIte]; done) | (simp_all only [Bool.and_true, Bool.true_and, Bool.and_false, Bool.false_and, Bool.or_true, Bool.true_or, Bool.or_false, Bool.false_or, Bool.not_true, Bool.not_false, cond_true, cond_false, List.length_map, ↓reduceIte]; done) | (exfalso; simp only [beq_iff_eq, beq_eq_false_iff_ne, ne_eq, decide_eq_true_eq, decide_eq_false_iff_not] at *; omega))) | (refine Zc7 (ZeC ?_); (first | exact Eq.refl _ | (simp only [*, Bool.and_true, Bool.true_and, Bool.and_false, Bool.false_and, Bool.or_true, Bool.true_or, Bool.or_false, Bool.false_or, Bool.not_true, Bool.not_false, cond_true, cond_false, List.length_map, ↓reduceIte]; done) | (simp_all only [Bool.and_true, Bool.true_and, Bool.and_false, Bool.false_and, Bool.or_true, Bool.true_or, Bool.or_false, Bool.false_or, Bool.not_true, Bool.not_false, cond_true, cond_false, List.length_map, ↓reduceIte]; done) | (exfalso; simp only [beq_iff_eq, beq_eq_false_iff_ne, ne_eq, decide_eq_true_eq, decide_eq_false_iff_not] at *; omega)))))) | (refine Zn5 ?_ ?_; (focus ((conv => (arg 2; whnf)); first | with_reducible exact Znf | exact Znf | (refine ZiL ?_; (repeat' (first | exact ZcA | refine cc ?_ | refine Zf2 (ZeC (Zep (by assumption) (by assumption))) ?_ | refine Zf2 (ZeC (ZcJ (by assumption) (by assumption))) ?_ | refine Zf2 WE.nil ?_ | refine Zkf rfl (WE.refl _) ?_ | refine ZfT ?_)))))))))) : ∃ r, WS r S T := ⟨_, hw⟩
theorem ZIh (r : Nat → Nat) (hw : WS r S T := by
  (refine WS.mk ?_ ?_ <;> (repeat' (first | exact ZcZ | exact Zc6 | (refine ZcI ?_ ?_; (focus ((conv => (arg 2; whnf)); first | exact ZqJ | with_reducible exact Zc7 (WE.refl _) | with_reducible exact ZhJ rfl (WE.refl _) | with_reducible exact Zc7 (ZeC (Zep (by assumption) (by assumption))) | with_reducible exact Zc7 (ZeC (ZcJ (by assumption) (by assumption))) | (with_reducible refine Zc7 (ZzT ?_); (first | exact Eq.refl _ | (simp only [*, Bool.and_true, Bool.true_and, Bool.and_false, Bool.false_and, Bool.or_true, Bool.true_or, Bool.or_false, Bool.false_or, Bool.not_true, Bool.not_false, cond_true, cond_false, List.length_map, ↓reduceIte]; done) | (simp_all only [Bool.and_true, Bool.true_and, Bool.and_false, Bool.false_and, Bool.or_true, Bool.true_or, Bool.or_false, Bool.false_or, Bool.not_true, Bool.not_false, cond_true, cond_false, List.length_map, ↓reduceIte]; done) | (exfalso; simp only [beq_iff_eq, beq_eq_false_iff_ne, ne_eq, decide_eq_true_eq, decide_eq_false_iff_not] at *; omega))) | exact Zc7 (WE.refl _) | exact ZhJ rfl (WE.refl _) | exact Zc7 WE.nil | exact ZkP | exact Zit rfl | exact Zkv | (refine ZgG ?_; (repeat' (first | exact Zn | refine lc ?_ | refine Zce WE.nil ?_))) | (refine ZkL ?_; (repeat' (first | exact ZkN | refine Zk2 (WE.refl _) ?_ | refine Zk2 WE.nil ?_ | refine Zke ?_ ?_ | exact Zn | refine lc ?_ | refine Zce WE.nil ?_))) | (refine Zkl ?_; (repeat' (first | exact Zn | refine lc ?_ | refine Zce WE.nil ?_))) | (refine Zc7 (ZzT ?_); (first | exact Eq.refl _ | (simp only [*, Bool.and_true, Bool.true_and, Bool.and_false, Bool.false_and, Bool.or_true, Bool.true_or, Bool.or_false, Bool.false_or, Bool.not_true, Bool.not_false, cond_true, cond_false, List.length_map, ↓reduceIte]; done) | (simp_all only [Bool.and_true, Bool.true_and, Bool.and_false, Bool.false_and, Bool.or_true, Bool.true_or, Bool.or_false, Bool.false_or, Bool.not_true, Bool.not_false, cond_true, cond_false, List.length_map, ↓reduceIte]; done) | (exfalso; simp only [beq_iff_eq, beq_eq_false_iff_ne, ne_eq, decide_eq_true_eq, decide_eq_false_iff_not] at *; omega))) | (refine Zc7 (ZeC ?_); (first | exact Eq.refl _ | (simp only [*, Bool.and_true, Bool.true_and, Bool.and_false, Bool.false_and, Bool.or_true, Bool.true_or, Bool.or_false, Bool.false_or, Bool.not_true, Bool.not_false, cond_true, cond_false, List.length_map, ↓reduceIte]; done) | (simp_all only [Bool.and_true, Bool.true_and, Bool.and_false, Bool.false_and, Bool.or_true, Bool.true_or, Bool.or_false, Bool.false_or, Bool.not_true, Bool.not_false, cond_true, cond_false, List.length_map, ↓reduceIte]; done) | (exfalso; simp only [beq_iff_eq, beq_eq_false_iff_ne, ne_eq, decide_eq_true_eq, decide_eq_false_iff_not] at *; omega)))))) | (refine Zn5 ?_ ?_; (focus ((conv => (arg 2; whnf)); first | with_reducible exact ZiH (by exact Eq.refl _) | exact ZiH (by exact Eq.refl _) | (refine ZiL ?_; (repeat' (first | exact ZcA | refine cc ?_ | refine Zf2 (ZeC (Zep (by assumption) (by assumption))) ?_ | refine Zf2 (ZeC (ZcJ (by assumption) (by assumption))) ?_ | refine Zf2 WE.nil ?_ | refine Zkf rfl (WE.refl _) ?_ | refine ZfT ?_)))))))))) : ∃ r, WS r S T := ⟨_, hw⟩
end
theorem ZJh {b : Bool} {A B : Prop} (h1 : b = true → A) (h2 : b = false → B) : ZgU b A B := ZpT h1 h2
section
variable {P : Program} [Gl P] {nt : Nat} {c : Code} {Q : Exit → AS → Prop} {S T : AS}
theorem zjr (r : Nat → Nat) (h : AWP P nt c Q T) (hw : WS r S T := by
  (refine WS.mk ?_ ?_ <;> (repeat' (first | exact ZcZ | exact Zc6 | (refine ZcI ?_ ?_; (focus ((conv => (arg 2; whnf)); first | exact ZqJ | with_reducible exact Zc7 (WE.refl _) | with_reducible exact ZhJ rfl (WE.refl _) | with_reducible exact Zc7 (ZeC (Zep (by assumption) (by assumption))) | with_reducible exact Zc7 (ZeC (ZcJ (by assumption) (by assumption))) | exact Zc7 (WE.refl _) | exact ZhJ rfl (WE.refl _) | exact Zc7 WE.nil | exact ZkP | exact Zit rfl | exact Zkv | (refine ZgG ?_; (repeat' (first | exact Zn | refine lc ?_ | refine Zce WE.nil ?_))) | (refine ZkL ?_; (repeat' (first | exact ZkN | refine Zk2 (WE.refl _) ?_ | refine Zk2 WE.nil ?_ | refine Zke ?_ ?_ | exact Zn | refine lc ?_ | refine Zce WE.nil ?_))) | (refine Zkl ?_; (repeat' (first | exact Zn | refine lc ?_ | refine Zce WE.nil ?_)))))) | (refine Zn5 ?_ ?_; (focus ((conv => (arg 2; whnf)); first | with_reducible exact ZiH (by exact Eq.refl _) | exact ZiH (by exact Eq.refl _) | (refine ZiL ?_; (repeat' (first | exact ZcA | refine cc ?_ | refine Zf2 (ZeC (Zep (by assumption) (by assumption))) ?_ | refine Zf2 (ZeC (ZcJ (by assumption) (by assumption))) ?_ | refine Zf2 WE.nil ?_ | refine Zkf rfl (WE.refl _) ?_ | refine ZfT ?_)))))))))) : AWP P nt c Q S := AWP.weak _ hw h
end

theorem CallsA.of_calls {P : Program} [Gl P] {f : FuncId} {args : List D} {K : D → Prop} (hc : Zsp P f)
  (h : ∀ (w : World) (St : ZaA) (ρ : Nat → Nat) (ZcM : Array Value), ZcM.size = args.length → (∀ i, Zet w St ρ ((⟨ZdY 0 args, []⟩ : AS).get i) (ZcM.getD i undef)) → (∀ b o, St b o → b < w.heap.size) → Zlh P w St →
   Calls P f ZcM w fun e w' => ∃ x, e = .returned x ∧ x.oneCell' = true ∧ K (.c none (.v x)) ∧ Below w.heap.size w w') : CallsA P f args K := by
 refine ⟨hc, fun w S0 M0 ZcM ρ hv hr => ?_⟩
 refine (h w S0 ρ ZcM hv (fun i => hr.tmp i) hr.lt hr.glob).mono ?_
 rintro e w' ⟨x, rfl, ho, hk, bel⟩
 have hno : ∀ {t k : Nat} {e : E} {v : Value}, ¬ Zcm (⟨[(0, .c none (.v x))], []⟩ : AS) #[x] w' ρ t k e v := by
  rintro t k e v (⟨i, hi, _⟩ | ⟨n, cs, j, hb, _⟩)
  ·simp only [AS.get, Z2] at hi
   split at hi <;> simp at hi
  ·simp [AS.box, Z2] at hb
 refine ⟨x, .c none (.v x), [], S0, ρ, rfl, hk, fun _ _ _ => ⟨rfl, rfl⟩, ?_⟩
 exact { glob := hr.glob, os := bel.os, tape := bel.tape, output := bel.output, size := bel.size, old := fun b hb _ => bel.block b hb
         stay := fun b o hs => bel.cell (p := ⟨b, o, none⟩) (hr.lt b o hs), up := fun _ _ h => h, dn := fun _ _ h _ => .inl h, lt := fun b o hs => Nat.lt_of_lt_of_le (hr.lt b o hs) bel.size
         tmp := fun i => by
           simp only [AS.get, Z2]
           split
           · rename_i h0; subst h0; exact .e _ _ (.v x ho)
           · exact trivial
         nm := fun n cs hb => by simp [AS.box, Z2] at hb
         box := fun n cs hb => by simp [AS.box, Z2] at hb, inj := fun n m cs ds hb => by simp [AS.box, Z2] at hb
         own := fun t k e v hh => (hno hh).elim, apart := fun t k e v t' k' e' v' hh => (hno hh).elim, ownbox := fun t k e v n cs hh => (hno hh).elim }
def D.bare : D → Bool
 | .c (some _) _ => false
 | .ptr _ _ => false
 | .ept _ _ _ _ => false
 | _ => true
theorem CallsA.of_callsD {P : Program} [Gl P] {f : FuncId} {args : List D} {K : D → Prop} (hc : Zsp P f)
  (h : ∀ (w : World) (St : ZaA) (ρ : Nat → Nat) (ZcM : Array Value), ZcM.size = args.length → (∀ i, Zet w St ρ ((⟨ZdY 0 args, []⟩ : AS).get i) (ZcM.getD i undef)) → (∀ b o, St b o → b < w.heap.size) → Zlh P w St →
   Calls P f ZcM w fun e w' => ∃ x r, e = .returned x ∧ Zet w' (fun b o => St b o ∨ (w.heap.size ≤ b ∧ b < w'.heap.size)) ρ r x ∧ r.bare = true ∧ K r ∧ Below w.heap.size w w') : CallsA P f args K := by
 refine ⟨hc, fun w S0 M0 ZcM ρ hv hr => ?_⟩
 refine (h w S0 ρ ZcM hv (fun i => hr.tmp i) hr.lt hr.glob).mono ?_
 rintro e w' ⟨x, r, rfl, hrep, hb, hk, bel⟩
 have hno : ∀ {t k : Nat} {e : E} {v : Value}, ¬ Zcm (⟨[(0, r)], []⟩ : AS) #[x] w' ρ t k e v := by
  rintro t k e v (⟨i, hi, _⟩ | ⟨n, cs, j, hb, _⟩)
  ·simp only [AS.get, Z2] at hi
   split at hi
   ·simp only [Option.getD_some] at hi; subst hi; cases hb
   ·simp at hi
  ·simp [AS.box, Z2] at hb
 refine ⟨x, r, [], (fun b o => S0 b o ∨ (w.heap.size ≤ b ∧ b < w'.heap.size)), ρ, rfl, hk, fun _ _ _ => ⟨rfl, rfl⟩, ?_⟩
 exact { glob := hr.glob, os := bel.os, tape := bel.tape, output := bel.output, size := bel.size, old := fun b hb _ => bel.block b hb
         stay := fun b o hs => bel.cell (p := ⟨b, o, none⟩) (hr.lt b o hs), up := fun _ _ h => .inl h, dn := fun b o h hl => by rcases h with h | h; exact .inl h; omega
         lt := fun b o hs => by rcases hs with hs | hs; exact Nat.lt_of_lt_of_le (hr.lt b o hs) bel.size; exact hs.2
         tmp := fun i => by
           simp only [AS.get, Z2]
           split
           · rename_i h0; subst h0; exact hrep
           · exact trivial
         nm := fun n cs hb => by simp [AS.box, Z2] at hb
         box := fun n cs hb => by simp [AS.box, Z2] at hb, inj := fun n m cs ds hb => by simp [AS.box, Z2] at hb
         own := fun t k e v hh => (hno hh).elim, apart := fun t k e v t' k' e' v' hh => (hno hh).elim, ownbox := fun t k e v n cs hh => (hno hh).elim }
theorem Zwh {w : World} {St : ZaA} {xs : List ByteArray} {v : Value} (h : Zdo w St (.sl (xs.map fun x => [.v (.string x)])) v) :
  ∃ A c, v = .slice A xs.length c ∧ xs.length ≤ c ∧ c ≤ maxLen ∧ (xs ≠ [] → ∃ b o, A = some ⟨b, o, none⟩ ∧ St b o ∧ ∀ (j : Nat) x, xs[j]? = some x → w.cell? ⟨b, o + j, none⟩ = some (.string x)) := by
 cases h with
 | sl _ A n c sz b o ZcM hn hc hm hA hs hv hr =>
  rw [List.length_map] at hn
  subst hn
  refine ⟨A, c, rfl, hc, hm, fun hne => ⟨b, o, hA (List.length_pos_iff.2 hne), ?_, fun j x hj => ?_⟩⟩
  ·obtain ⟨x, hx⟩ : ∃ x, xs[0]? = some x := ⟨_, List.getElem?_eq_getElem (List.length_pos_iff.2 hne)⟩
   have := (hv 0 0 [.v (.string x)] (.v (.string x)) (by simp [hx]) rfl).1
   simpa using this
  ·have h1 : (xs.map fun x => [E.v (.string x)])[j]? = some [.v (.string x)] := by simp [hj]
   have hsz : sz = 1 := by have := hs j _ h1; simpa using this.symm
   subst hsz
   obtain ⟨_, h3⟩ := hv j 0 _ (.v (.string x)) h1 rfl
   have h4 := hr j 0 _ (.v (.string x)) h1 rfl
   have h5 : ZcM j 0 = .string x := by generalize ZcM j 0 = y at h4; cases h4; rfl
   rw [h5] at h3
   simpa using h3

end Go.Am
