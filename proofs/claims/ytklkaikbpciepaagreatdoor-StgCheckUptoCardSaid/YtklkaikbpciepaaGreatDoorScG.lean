/- Part 7 of the proof: the program's functions as Lean functions with their walks, and the plain law. It holds for every input, without conditions. -/
import Derived.Lib.LaidTab
import Derived.Lib.ItoaNum
import Derived.KernelRfl
import Derived.Stop.LaidErr
import Derived.Test.YtklkaikbpciepaaGreatDoorRows
import Derived.Test.YtklkaikbpciepaaGreatDoorScA
import Derived.Test.YtklkaikbpciepaaGreatDoorScB
import Derived.Test.YtklkaikbpciepaaGreatDoorScC
import Derived.Test.YtklkaikbpciepaaGreatDoorScD
import Derived.Test.YtklkaikbpciepaaGreatDoorScE
import Derived.Test.YtklkaikbpciepaaGreatDoorScF
set_option linter.unusedVariables false
set_option linter.unusedSimpArgs false
set_option maxRecDepth 100000
set_option maxHeartbeats 4000000
namespace Go.Proofs.YtklkaikbpciepaaGreatDoor
open Go Go.Am
def alB (a : Zf) : Bool :=
 if a.fOp = 1 then Zdx a.fName && decide (a.fN = 0)
 else if a.fOp = 2 then decide (a.fName = ZjF) && decide (a.fVars.length = 0)
 else if a.fOp = 3 then ((decide (a.fName = ZjF) && decide (a.fVars.length = 0)) && decide (a.fN ≥ 0)) && decide (a.fN ≤ 255)
 else if a.fOp = 4 then (decide (a.fName = ZjF) && decide (a.fN = 0)) && decide (a.fVars.length = 0)
 else false
theorem ZsL (a : Zf) : Zcz a = some (alB a) := by
 rw [Zcz]
 simp only [Zf1, z0, (Zd8 a.fName).2]
 simp only [ieq]
 unfold alB
 rw [show ByteArray.mk #[] = ZjF from rfl]
 by_cases h1 : a.fOp = 1
 ·rw [if_pos h1, decide_eq_true h1, ifT, Zo]
 ·rw [if_neg h1, decide_eq_false h1, ifF]
  by_cases h2 : a.fOp = 2
  ·rw [if_pos h2, decide_eq_true h2, ifT]
  ·rw [if_neg h2, decide_eq_false h2, ifF]
   by_cases h3 : a.fOp = 3
   ·rw [if_pos h3, decide_eq_true h3, ifT]
   ·rw [if_neg h3, decide_eq_false h3, ifF]
    by_cases h4 : a.fOp = 4
    ·rw [if_pos h4, decide_eq_true h4, ifT]
    ·rw [if_neg h4, decide_eq_false h4, ifF]
def sqB (x k : Zf) : Bool := decide (x.fOp = 4 ∨ (k.fOp = x.fOp ∧ ¬(k.fName = x.fName ∧ k.fN = x.fN)))
def Zf3 : List Zf → List Zf → Bool
 | _, [] => true
 | pre, x :: s => ((alB x && decide (x.fOp = 4 → s = [])) && pre.all (sqB x)) && Zf3 (pre ++ [x]) s
theorem ZGm (pre s : List Zf) (x : Zf) (h : (pre ++ x :: s).length ≤ 1000000000) : decide (((pre.length : Nat) : Int) < IntKind.i64.wrap ((((pre ++ x :: s).length : Nat) : Int) - 1)) = decide (s ≠ []) := by
 rw [List.length_append, List.length_cons] at *
 rw [w64 (by omega) (by omega)]
 apply decide_eq_decide.2
 cases s with
 | nil => simp
 | cons y s => simp; omega
theorem Ztn (l : List Zf) (hl : l.length ≤ 1000000000) : ZcT l = some (Zf3 [] l) := by
 have key : ∀ (s pre : List Zf), l = pre ++ s → ZU l pre.length = some (Zf3 pre s) := by
  intro s
  induction s with
  | nil =>
   intro pre hp
   rw [ZU, hp, List.append_nil, decide_eq_false (by omega), ifF]; rfl
  | cons x s ih =>
   intro pre hp
   have hx : l[pre.length]? = some x := by rw [hp]; simp
   have hn := ih (pre ++ [x]) (by rw [hp]; simp)
   rw [List.length_append] at hn
   have hn' : ZU l (pre.length + 1) = some (Zf3 (pre ++ [x]) s) := hn
   have h2 : ∀ (t q : List Zf), pre = q ++ t → ZaI l pre.length q.length = if t.all (sqB x) = true then ZU l (pre.length + 1) else some false := by
    intro t
    induction t with
    | nil =>
     intro q hq
     rw [ZaI, hq, List.append_nil, decide_eq_false (by omega), ifF]; rfl
    | cons y t iht =>
     intro q hq
     have hy : l[q.length]? = some y := by rw [hp, hq]; simp
     have hlt : q.length < pre.length := by rw [hq, List.length_append, List.length_cons]; omega
     have hpl : pre.length ≤ 1000000000 := by rw [hp, List.length_append] at hl; omega
     have hm := iht (q ++ [y]) (by rw [hq]; simp)
     rw [List.length_append] at hm
     have hm' : ZaI l pre.length (q.length + 1) = if t.all (sqB x) = true then ZU l (pre.length + 1) else some false := hm
     rw [ZaI, decide_eq_true (by omega), ifT, hx, Zo, hy]
     simp only [Zo, Zf1]
     simp only [ieq, ine]
     rw [List.all_cons, hm', ZdN _ (by omega)]
     unfold sqB
     by_cases e4 : x.fOp = 4
     ·rw [decide_eq_true e4, decide_eq_true (show x.fOp = 4 ∨ _ from .inl e4)]; rfl
     ·rw [decide_eq_false e4]
      by_cases eo : y.fOp = x.fOp
      ·rw [decide_eq_true eo]
       by_cases en : y.fName = x.fName
       ·by_cases eN : y.fN = x.fN
        ·rw [decide_eq_true en, decide_eq_true eN, decide_eq_false (show ¬(x.fOp = 4 ∨ (y.fOp = x.fOp ∧ ¬(y.fName = x.fName ∧ y.fN = x.fN))) from fun h => h.elim e4 fun h => h.2 ⟨en, eN⟩)]; rfl
        ·rw [decide_eq_true en, decide_eq_false eN, decide_eq_true (show (x.fOp = 4 ∨ (y.fOp = x.fOp ∧ ¬(y.fName = x.fName ∧ y.fN = x.fN))) from .inr ⟨eo, fun h => eN h.2⟩)]; rfl
       ·rw [decide_eq_false en, decide_eq_true (show (x.fOp = 4 ∨ (y.fOp = x.fOp ∧ ¬(y.fName = x.fName ∧ y.fN = x.fN))) from .inr ⟨eo, fun h => en h.1⟩)]; rfl
      ·rw [decide_eq_false eo, decide_eq_false (show ¬(x.fOp = 4 ∨ (y.fOp = x.fOp ∧ ¬(y.fName = x.fName ∧ y.fN = x.fN))) from fun h => h.elim e4 fun h => eo h.1)]; rfl
   rw [ZU, decide_eq_true (by rw [hp, List.length_append, List.length_cons]; omega), ifT, hx, Zo, ZsL, Zo, Zo]
   have hq := h2 pre [] rfl
   rw [show (([] : List Zf).length) = 0 from rfl] at hq
   rw [hq, hn', Zf3]
   have hla := ZGm pre s x (hp ▸ hl)
   rw [← hp] at hla
   rw [hla]
   simp only [ieq]
   cases alB x with
   | false => rfl
   | true =>
    by_cases e4 : x.fOp = 4
    ·by_cases es : s = []
     ·rw [decide_eq_true e4, decide_eq_false (show ¬ s ≠ [] from fun h => h es), decide_eq_true (show x.fOp = 4 → s = [] from fun _ => es)]
      cases pre.all (sqB x) <;> rfl
     ·rw [decide_eq_true e4, decide_eq_true (show s ≠ [] from es), decide_eq_false (show ¬ (x.fOp = 4 → s = []) from fun h => es (h e4))]; rfl
    ·rw [decide_eq_false e4, decide_eq_true (show x.fOp = 4 → s = [] from fun h => absurd h e4)]
     cases pre.all (sqB x) <;> rfl
 exact key l [] rfl
theorem Zty {β : Type} (x k : Int) (v : β) : ∀ c : List (Int × β), Zeq x (Ze0 c k v) = if x = k then some v else Zeq x c
 | [] => by
  rw [Ze0, Zeq, Zeq, ieq]
  by_cases h : x = k
  ·rw [decide_eq_true h, ifT, if_pos h]
  ·rw [decide_eq_false h, ifF, if_neg h]; rfl
 | p :: c => by
  rw [Ze0, ieq]
  by_cases hk : k = p.1
  ·rw [decide_eq_true hk, ifT, Zeq, Zeq, ieq, ieq]
   by_cases h : x = k
   ·rw [decide_eq_true h, ifT, if_pos h]
   ·rw [decide_eq_false h, ifF, if_neg h, decide_eq_false (fun e => h (e.trans hk.symm)), ifF]
  ·rw [decide_eq_false hk, ifF, Zeq, Zeq, ieq, Zty x k v c]
   by_cases h : x = p.1
   ·rw [decide_eq_true h, ifT, ifT, if_neg (fun e => hk (e.symm.trans h))]
   ·rw [decide_eq_false h, ifF, ifF]
def sgI (m : List (Int × Bool)) (x : Int) : Bool := (Zeq x m).getD false
theorem Zyk (m : List (Int × Bool)) (x : Int) : ∃ b, ZbW m false x = some (sgI m x, b) := by
 unfold ZbW sgI
 cases Zeq x m with
 | some v => exact ⟨true, rfl⟩
 | none => exact ⟨false, rfl⟩
theorem ZBx (m : List (Int × Bool)) (k : Int) (v : Bool) (x : Int) : sgI (Ze0 m k v) x = if x = k then v else sgI m x := by
 unfold sgI; rw [Zty]; by_cases h : x = k
 ·rw [if_pos h, if_pos h]; rfl
 ·rw [if_neg h, if_neg h]
def avB (scrut : ByteArray) (a : Zf) : Bool := !decide (a.fOp = 1) || Zen [] (scrut :: a.fVars)
structure VP (pre : List Zf) (o : Int) : Prop where
 ok : ∀ a ∈ pre, alB a = true ∧ a.fOp = o
 n4 : o ≠ 4
theorem al1 {a : Zf} (h : a.fOp = 1) (ha : alB a = true) : a.fN = 0 := by
 unfold alB at ha; rw [if_pos h, Bool.and_eq_true, decide_eq_true_eq] at ha; exact ha.2
theorem ZHC {a : Zf} (h : a.fOp = 2 ∨ a.fOp = 3) (ha : alB a = true) : a.fName = ZjF := by
 unfold alB at ha
 rcases h with h | h
 ·rw [if_neg (by omega), if_pos h] at ha; simp at ha; exact ha.1
 ·rw [if_neg (by omega), if_neg (by omega), if_pos h] at ha; simp at ha; exact ha.1.1.1
theorem Zsl (scrut : ByteArray) (l : List Zf) (hl : l.length ≤ 1000000000) (hv : ∀ a ∈ l, a.fVars.length ≤ 1000000000) : Zev scrut l = some (Zf3 [] l && l.all (avB scrut)) := by
 have key : ∀ (s pre : List Zf) (o : Int) (c9 : List (ByteArray × Bool)) (c10 : List (Int × Bool)), l = pre ++ s → (s ≠ [] → VP pre o) → (∀ n, sg c9 n = decide (∃ a ∈ pre, a.fOp = 1 ∧ a.fName = n)) → (∀ n, sgI c10 n = decide (∃ a ∈ pre, (a.fOp = 2 ∨ a.fOp = 3) ∧ a.fN = n)) →
   ZaC scrut l pre.length c9 c10 = some (Zf3 pre s && s.all (avB scrut)) := by
  intro s
  induction s with
  | nil =>
   intro pre o c9 c10 hp _ _ _
   rw [ZaC, hp, List.append_nil, decide_eq_false (by omega), ifF]; rfl
  | cons x s ih =>
   intro pre o c9 c10 hp hV h9 h10
   have hV := hV (by simp)
   have hx : l[pre.length]? = some x := by rw [hp]; simp
   have hxv := hv x (by rw [hp]; simp)
   obtain ⟨hd, hhd, hhp⟩ : ∃ hd, ixI l 0 = some hd ∧ ((pre = [] ∧ hd = x) ∨ (hd ∈ pre ∧ hd.fOp = o)) := by
    unfold ixI
    rw [if_pos (Int.le_refl _), hp]
    cases pre with
    | nil => exact ⟨x, rfl, .inl ⟨rfl, rfl⟩⟩
    | cons y pre => exact ⟨y, rfl, .inr ⟨by simp, (hV.ok y (by simp)).2⟩⟩
   have hk2 : ∀ c9' c10', Zcq scrut l pre.length x c9' c10' = if (decide (x.fOp ≠ 4) && decide (x.fOp ≠ hd.fOp)) = true then some false else ZaC scrut l (pre.length + 1) c9' c10' := by
    intro c9' c10'
    rw [Zcq, hhd]
    simp only [Zo, ine]
    by_cases e4 : x.fOp = 4
    ·rw [decide_eq_true e4, decide_eq_false (show ¬ x.fOp ≠ 4 from fun h => h e4)]; rfl
    ·rw [decide_eq_false e4, decide_eq_true (show x.fOp ≠ 4 from e4)]
     by_cases e : x.fOp = hd.fOp
     ·rw [decide_eq_true e, decide_eq_false (show ¬ x.fOp ≠ hd.fOp from fun h => h e)]; rfl
     ·rw [decide_eq_false e, decide_eq_true (show x.fOp ≠ hd.fOp from e)]; rfl
   have hn : ∀ (c9' : List (ByteArray × Bool)) (c10' : List (Int × Bool)), alB x = true → (x.fOp = 4 → s = []) → (pre ≠ [] → x.fOp = 4 ∨ x.fOp = o) → (∀ n, sg c9' n = decide (∃ a ∈ pre ++ [x], a.fOp = 1 ∧ a.fName = n)) → (∀ n, sgI c10' n = decide (∃ a ∈ pre ++ [x], (a.fOp = 2 ∨ a.fOp = 3) ∧ a.fN = n)) →
     ZaC scrut l (pre.length + 1) c9' c10' = some (Zf3 (pre ++ [x]) s && s.all (avB scrut)) := by
    intro c9' c10' ha h4 ho g9 g10
    have := ih (pre ++ [x]) x.fOp c9' c10' (by rw [hp]; simp) (fun hs => ⟨fun a hm => ?_, fun e => hs (h4 e)⟩) g9 g10
    ·rw [List.length_append] at this; exact this
    ·rw [List.mem_append, List.mem_singleton] at hm
     rcases hm with hm | rfl
     ·refine ⟨(hV.ok a hm).1, ?_⟩
      have hne : pre ≠ [] := fun e => by rw [e] at hm; simp at hm
      rcases ho hne with h | h
      ·exact absurd (h4 h) hs
      ·rw [h]; exact (hV.ok a hm).2
     ·exact ⟨ha, rfl⟩
   have hne4 : ∀ a ∈ pre, a.fOp ≠ 4 := fun a ha e => hV.n4 ((hV.ok a ha).2.symm.trans e)
   rw [ZaC, decide_eq_true (by rw [hp, List.length_append, List.length_cons]; omega), ifT, hx, Zo, Zf3, List.all_cons]
   by_cases h1 : x.fOp = 1
   ·
    rw [show (x.fOp == 1) = true from by rw [ieq]; exact decide_eq_true h1, ifT, (Zd8 x.fName).1, Zo]
    obtain ⟨b, hb⟩ := Zs9 c9 x.fName
    rw [hb, h9, ZdN _ (by simp; omega), show [scrut] ++ x.fVars = scrut :: x.fVars from rfl, Zhw, hk2]
    have e4 : x.fOp ≠ 4 := by omega
    have hal : alB x = (Zdx x.fName && decide (x.fN = 0)) := by unfold alB; rw [if_pos h1]
    have hav : avB scrut x = Zen [] (scrut :: x.fVars) := by unfold avB; rw [decide_eq_true h1]; rfl
    rw [hal, hav, decide_eq_true (show x.fOp = 4 → s = [] from fun h => absurd h e4), decide_eq_true e4, Bool.true_and, Bool.and_true]
    simp only [Zo, ine]
    cases hnb : Zdx x.fName with
    | false => rfl
    | true =>
     by_cases hN : x.fN = 0
     ·rw [decide_eq_true hN]
      have hsq : pre.all (sqB x) = (!decide (∃ a ∈ pre, a.fOp = 1 ∧ a.fName = x.fName) && !decide (x.fOp ≠ hd.fOp)) := by
       rw [Bool.eq_iff_iff, List.all_eq_true, Bool.and_eq_true, Bool.not_eq_true', Bool.not_eq_true', decide_eq_false_iff_not, decide_eq_false_iff_not]
       constructor
       ·intro h
        refine ⟨fun ⟨a, ha, a1, a2⟩ => ?_, fun e => ?_⟩
        ·have := of_decide_eq_true (h a ha)
         rcases this with h | h
         ·exact e4 h
         ·exact h.2 ⟨a2, by rw [hN]; exact al1 a1 (hV.ok a ha).1⟩
        ·rcases hhp with ⟨_, rfl⟩ | ⟨hm, _⟩
         ·exact e rfl
         ·have := of_decide_eq_true (h hd hm)
          rcases this with h | h
          ·exact e4 h
          ·exact e h.1.symm
       ·rintro ⟨g1, g2⟩ a ha
        have hop : a.fOp = x.fOp := by
         rcases hhp with ⟨hp0, _⟩ | ⟨hm, ho⟩
         ·rw [hp0] at ha; simp at ha
         ·rw [(hV.ok a ha).2, ← ho]; exact (Classical.not_not.1 g2).symm
        exact decide_eq_true (.inr ⟨hop, fun h => g1 ⟨a, ha, by rw [hop, h1], h.1⟩⟩)
      rw [hsq]
      by_cases hex : ∃ a ∈ pre, a.fOp = 1 ∧ a.fName = x.fName
      ·rw [decide_eq_true hex]; rfl
      ·rw [decide_eq_false hex]
       cases hdis : Zen [] (scrut :: x.fVars) with
       | false =>
        cases decide (x.fOp ≠ hd.fOp) <;> cases Zf3 (pre ++ [x]) s <;> rfl
       | true =>
        by_cases hho : x.fOp = hd.fOp
        ·rw [decide_eq_false (show ¬ x.fOp ≠ hd.fOp from fun h => h hho)]
         have := hn (Ze0 c9 x.fName true) c10 (by rw [hal, hnb, decide_eq_true hN]; rfl) (fun h => absurd h e4) (fun hne => .inr (by
          rcases hhp with ⟨hp0, _⟩ | ⟨hm, ho⟩
          ·exact absurd hp0 hne
          ·rw [hho, ho])) (fun n => by
          rw [Zw1, h9]
          by_cases e : n = x.fName
          ·rw [if_pos e, decide_eq_true ⟨x, by simp, h1, e.symm⟩]
          ·rw [if_neg e]; apply decide_eq_decide.2
           exact ⟨fun ⟨a, h, k⟩ => ⟨a, by simp [h], k⟩, fun ⟨a, h, k⟩ => by
            rw [List.mem_append, List.mem_singleton] at h
            rcases h with h | rfl
            ·exact ⟨a, h, k⟩
            ·exact absurd k.2.symm e⟩) (fun n => by
          rw [h10]; apply decide_eq_decide.2
          exact ⟨fun ⟨a, h, k⟩ => ⟨a, by simp [h], k⟩, fun ⟨a, h, k⟩ => by
            rw [List.mem_append, List.mem_singleton] at h
            rcases h with h | rfl
            ·exact ⟨a, h, k⟩
            ·exfalso; omega⟩)
         rw [this]
         cases Zf3 (pre ++ [x]) s <;> rfl
        ·rw [decide_eq_true (show x.fOp ≠ hd.fOp from hho)]
         cases Zf3 (pre ++ [x]) s <;> rfl
     ·rw [decide_eq_false hN]
      cases decide (∃ a ∈ pre, a.fOp = 1 ∧ a.fName = x.fName) <;> rfl
   ·have hav : avB scrut x = true := by unfold avB; rw [decide_eq_false h1]; rfl
    rw [show (x.fOp == 1) = false from by rw [ieq]; exact decide_eq_false h1, ifF, hav, Bool.true_and]
    have hk3 : (if (x.fOp == 2) = true then Zb4 scrut l pre.length x (x.fOp == 2) c9 c10 else Zb4 scrut l pre.length x (x.fOp == 3) c9 c10) = Zb4 scrut l pre.length x (decide (x.fOp = 2 ∨ x.fOp = 3)) c9 c10 := by
     simp only [ieq]
     by_cases h2 : x.fOp = 2
     ·rw [decide_eq_true h2, ifT, decide_eq_true (show x.fOp = 2 ∨ x.fOp = 3 from .inl h2)]
     ·rw [decide_eq_false h2, ifF]
      congr 1
      apply decide_eq_decide.2
      exact ⟨.inr, fun h => h.resolve_left h2⟩
    rw [hk3, Zb4]
    by_cases h23 : x.fOp = 2 ∨ x.fOp = 3
    ·
     have e4 : x.fOp ≠ 4 := by omega
     rw [decide_eq_true h23, ifT]
     obtain ⟨b, hb⟩ := Zyk c10 x.fN
     rw [hb, h10, hk2, decide_eq_true (show x.fOp = 4 → s = [] from fun h => absurd h e4), decide_eq_true e4, Bool.true_and, Bool.and_true]
     simp only [Zo, Zf1, zg]
     simp only [ieq]
     rw [show ByteArray.mk #[] = ZjF from rfl]
     have hal : alB x = ((decide (x.fName = ZjF) && !decide (1 ≤ x.fVars.length)) && !(decide (x.fOp = 3) && (decide (x.fN < 0) || decide (x.fN > 255)))) := by
      unfold alB
      rw [if_neg h1]
      have hz : decide (x.fVars.length = 0) = !decide (1 ≤ x.fVars.length) := by rw [Bool.eq_iff_iff]; simp
      rcases h23 with h | h
      ·rw [if_pos h, hz, decide_eq_false (show ¬ x.fOp = 3 by omega)]; simp
      ·rw [if_neg (by omega), if_pos h, hz, decide_eq_true h, Bool.true_and, Bool.and_assoc]
       congr 1
       rw [Bool.eq_iff_iff]; simp
     have hsq : alB x = true → pre.all (sqB x) = (!decide (∃ a ∈ pre, (a.fOp = 2 ∨ a.fOp = 3) ∧ a.fN = x.fN) && !decide (x.fOp ≠ hd.fOp)) ∨ (pre.all (sqB x) = false ∧ decide (x.fOp ≠ hd.fOp) = true) := by
      intro ha
      have hxn := ZHC h23 ha
      rcases hhp with ⟨hp0, hdx⟩ | ⟨hm, ho⟩
      ·left; subst hp0; subst hdx; simp
      ·by_cases hho : x.fOp = hd.fOp
       ·left
        rw [decide_eq_false (show ¬ x.fOp ≠ hd.fOp from fun h => h hho), Bool.not_false, Bool.and_true, Bool.eq_iff_iff, List.all_eq_true, Bool.not_eq_true', decide_eq_false_iff_not]
        have hop : ∀ a ∈ pre, a.fOp = x.fOp := fun a ha => by rw [(hV.ok a ha).2, ← ho]; exact hho.symm
        constructor
        ·rintro h ⟨a, ha', a1, a2⟩
         rcases of_decide_eq_true (h a ha') with h | h
         ·exact e4 h
         ·exact h.2 ⟨by rw [ZHC a1 (hV.ok a ha').1, hxn], a2⟩
        ·intro h a ha'
         exact decide_eq_true (.inr ⟨hop a ha', fun k => h ⟨a, ha', by rw [hop a ha']; exact h23, k.2⟩⟩)
       ·right
        refine ⟨?_, decide_eq_true hho⟩
        rw [List.all_eq_false]
        refine ⟨hd, hm, ?_⟩
        unfold sqB
        rw [decide_eq_true_eq]
        rintro (h | h)
        ·exact e4 h
        ·exact hho h.1.symm
     rw [hal] at hsq ⊢
     by_cases hgood : ((decide (x.fName = ZjF) && !decide (1 ≤ x.fVars.length)) && !(decide (x.fOp = 3) && (decide (x.fN < 0) || decide (x.fN > 255)))) = true
     ·have hs := hsq hgood
      rw [hgood]
      rw [Bool.and_eq_true, Bool.and_eq_true, Bool.not_eq_true', Bool.not_eq_true'] at hgood
      obtain ⟨⟨g1, g2⟩, g3⟩ := hgood
      rw [g1, g2, g3]
      rcases hs with hs | ⟨hs, hs2⟩
      ·rw [hs]
       by_cases hex : ∃ a ∈ pre, (a.fOp = 2 ∨ a.fOp = 3) ∧ a.fN = x.fN
       ·rw [decide_eq_true hex]; rfl
       ·rw [decide_eq_false hex]
        by_cases hho : x.fOp = hd.fOp
        ·rw [decide_eq_false (show ¬ x.fOp ≠ hd.fOp from fun h => h hho)]
         have := hn c9 (Ze0 c10 x.fN true) (by rw [hal, g1, g2, g3]; rfl) (fun h => absurd h e4) (fun hne => .inr (by
          rcases hhp with ⟨hp0, _⟩ | ⟨hm, ho⟩
          ·exact absurd hp0 hne
          ·rw [hho, ho])) (fun n => by
          rw [h9]; apply decide_eq_decide.2
          exact ⟨fun ⟨a, h, k⟩ => ⟨a, by simp [h], k⟩, fun ⟨a, h, k⟩ => by
            rw [List.mem_append, List.mem_singleton] at h
            rcases h with h | rfl
            ·exact ⟨a, h, k⟩
            ·exact absurd k.1 h1⟩) (fun n => by
          rw [ZBx, h10]
          by_cases e : n = x.fN
          ·rw [if_pos e, decide_eq_true ⟨x, by simp, h23, e.symm⟩]
          ·rw [if_neg e]; apply decide_eq_decide.2
           exact ⟨fun ⟨a, h, k⟩ => ⟨a, by simp [h], k⟩, fun ⟨a, h, k⟩ => by
            rw [List.mem_append, List.mem_singleton] at h
            rcases h with h | rfl
            ·exact ⟨a, h, k⟩
            ·exact absurd k.2.symm e⟩)
         rw [this]
         cases Zf3 (pre ++ [x]) s <;> rfl
        ·rw [decide_eq_true (show x.fOp ≠ hd.fOp from hho)]; rfl
      ·rw [hs, hs2]
       cases decide (∃ a ∈ pre, (a.fOp = 2 ∨ a.fOp = 3) ∧ a.fN = x.fN) <;> rfl
     ·rw [Bool.not_eq_true] at hgood
      rw [hgood]
      revert hgood
      cases decide (x.fName = ZjF) <;> cases decide (1 ≤ x.fVars.length) <;> cases (decide (x.fOp = 3) && (decide (x.fN < 0) || decide (x.fN > 255))) <;> cases decide (∃ a ∈ pre, (a.fOp = 2 ∨ a.fOp = 3) ∧ a.fN = x.fN) <;> intro hgood <;> first | rfl | (exact absurd hgood (by decide))
    ·rw [decide_eq_false h23, ifF]
     by_cases h4 : x.fOp = 4
     ·rw [show (x.fOp == 4) = true from by rw [ieq]; exact decide_eq_true h4, ifT, hk2]
      simp only [Zf1, zg, ine]
      rw [show ByteArray.mk #[] = ZjF from rfl]
      have hal : alB x = ((decide (x.fName = ZjF) && decide (x.fN = 0)) && !decide (1 ≤ x.fVars.length)) := by
       unfold alB
       rw [if_neg h1, if_neg (by omega), if_neg (by omega), if_pos h4]
       congr 1
       rw [Bool.eq_iff_iff]; simp
      have hlast : decide (((pre.length : Nat) : Int) = IntKind.i64.wrap (((l.length : Nat) : Int) - 1)) = decide (s = []) := by
       have hl' := hl
       rw [hp, List.length_append, List.length_cons] at hl' ⊢
       rw [w64 (by omega) (by omega)]
       apply decide_eq_decide.2
       cases s with
       | nil => simp
       | cons y s => simp; omega
      have hsq : pre.all (sqB x) = true := by
       rw [List.all_eq_true]
       exact fun a _ => decide_eq_true (.inl h4)
      rw [hlast, hal, hsq, decide_eq_false (show ¬ x.fOp ≠ 4 from fun h => h h4)]
      by_cases hs : s = []
      ·rw [decide_eq_true hs, decide_eq_true (show x.fOp = 4 → s = [] from fun _ => hs)]
       cases g1 : decide (x.fName = ZjF) with
       | false => rfl
       | true =>
        cases g2 : decide (x.fN = 0) with
        | false => rfl
        | true =>
         cases g3 : decide (1 ≤ x.fVars.length) with
         | true => rfl
         | false =>
          have := hn c9 c10 (by rw [hal, g1, g2, g3]; rfl) (fun _ => hs) (fun _ => .inl h4) (fun n => by
           rw [h9]; apply decide_eq_decide.2
           exact ⟨fun ⟨a, h, k⟩ => ⟨a, by simp [h], k⟩, fun ⟨a, h, k⟩ => by
            rw [List.mem_append, List.mem_singleton] at h
            rcases h with h | rfl
            ·exact ⟨a, h, k⟩
            ·exact absurd k.1 h1⟩) (fun n => by
           rw [h10]; apply decide_eq_decide.2
           exact ⟨fun ⟨a, h, k⟩ => ⟨a, by simp [h], k⟩, fun ⟨a, h, k⟩ => by
            rw [List.mem_append, List.mem_singleton] at h
            rcases h with h | rfl
            ·exact ⟨a, h, k⟩
            ·exact absurd k.1 h23⟩)
          show ZaC scrut l (pre.length + 1) c9 c10 = _
          rw [this]; rfl
      ·rw [decide_eq_false hs, decide_eq_false (show ¬ (x.fOp = 4 → s = []) from fun h => hs (h h4))]
       cases (decide (x.fName = ZjF) && decide (x.fN = 0)) && !decide (1 ≤ x.fVars.length) <;> rfl
     ·rw [show (x.fOp == 4) = false from by rw [ieq]; exact decide_eq_false h4, ifF]
      have hal : alB x = false := by
       unfold alB
       rw [if_neg h1, if_neg (fun h => h23 (.inl h)), if_neg (fun h => h23 (.inr h)), if_neg h4]
      rw [hal]; rfl
 exact key l [] 0 [] [] rfl (fun _ => ⟨fun a ha => absurd ha List.not_mem_nil, by omega⟩) (fun n => by rw [decide_eq_false (fun ⟨a, h, _⟩ => absurd h List.not_mem_nil)]; rfl) (fun n => by rw [decide_eq_false (fun ⟨a, h, _⟩ => absurd h List.not_mem_nil)]; rfl)

theorem ZqX (a b : List ByteArray) : ZaB a b = some (decide (a = b)) := by
 have key : ∀ (s t pre q : List ByteArray), a = pre ++ s → b = q ++ t → q.length = pre.length → t.length = s.length → Zam a b pre.length s = some (decide (s = t)) := by
  intro s
  induction s with
  | nil =>
   intro t pre q _ _ _ ht
   rw [Zam]
   rw [List.length_nil, List.length_eq_zero_iff] at ht
   rw [ht]; rfl
  | cons x s ih =>
   intro t pre q ha hb hq ht
   cases t with
   | nil => simp at ht
   | cons y t =>
    have hg : b[pre.length]? = some y := by rw [hb, ← hq]; simp
    have := ih t (pre ++ [x]) (q ++ [y]) (by rw [ha]; simp) (by rw [hb]; simp) (by simp [hq]) (by simpa using ht)
    rw [List.length_append] at this
    have h' : Zam a b (pre.length + 1) s = some (decide (s = t)) := this
    rw [Zam]
    show (b[pre.length]? >>= _) = _
    rw [hg, Zo, Zf1, h']
    by_cases e : x = y
    ·rw [decide_eq_true e, Bool.not_true, ifF]; congr 1; apply decide_eq_decide.2; rw [e]; simp
    ·rw [decide_eq_false e, Bool.not_false, ifT]; congr 1; rw [eq_comm, decide_eq_false_iff_not]; intro h; injection h with h; exact e h
 rw [ZaB]
 by_cases hl : a.length = b.length
 ·rw [show ((((a.length : Nat) : Int) != ((b.length : Nat) : Int)) = false) from by simp [hl], ifF]
  exact key a b [] [] rfl rfl rfl hl.symm
 ·rw [show ((((a.length : Nat) : Int) != ((b.length : Nat) : Int)) = true) from by simp; omega, ifT]
  congr 1; rw [eq_comm, decide_eq_false_iff_not]; intro h; exact hl (by rw [h])
theorem ZAZ (l : List ByteArray) (s : ByteArray) : Zd9 l s = some (mb l s) := by
 have key : ∀ (r : List ByteArray) (i : Nat), Zba l s i r = some (mb r s) := by
  intro r
  induction r with
  | nil => intro i; rw [Zba]; rfl
  | cons x r ih =>
   intro i
   rw [Zba]
   show (if (x.toList == s.toList) = true then some true else Zba l s (i + 1) r) = _
   rw [Zf1, ih]
   by_cases h : x = s
   ·rw [decide_eq_true h, ifT]; unfold mb; rw [decide_eq_true (by simp [h])]
   ·rw [decide_eq_false h, ifF]; unfold mb; congr 1; apply decide_eq_decide.2; rw [List.mem_cons]; exact ⟨.inr, fun hh => hh.resolve_left fun e => h e.symm⟩
 exact key l 0
theorem Zyw (all : List ByteArray) (Q : ByteArray → Bool) (hn : all.Nodup) (hl : all.length ≤ 1000000000) : ZdL (all.filter Q) all = some true := by
 generalize hL : all.filter Q = l
 have hll : l.length ≤ all.length := by rw [← hL]; exact List.length_filter_le _ _
 have key : ∀ (rest pre lp : List ByteArray), all = pre ++ rest → l = lp ++ rest.filter Q → (rest.filter Q ≠ [] → Zcb l all pre.length lp.length = some true) ∧ ZaY l all pre.length lp.length = some true := by
  intro rest
  induction rest with
  | nil =>
   intro pre lp ha hlp
   refine ⟨fun h => absurd rfl h, ?_⟩
   rw [ZaY, hlp, List.filter_nil, List.append_nil, decide_eq_false (by omega), ifF]
  | cons y rest ih =>
   intro pre lp ha hlp
   have hal : pre.length < all.length := by rw [ha, List.length_append, List.length_cons]; omega
   have hay : all[pre.length]? = some y := by rw [ha]; simp
   have h2 : (y :: rest).filter Q ≠ [] → Zcb l all pre.length lp.length = some true := by
    intro hne
    rw [List.filter_cons] at hlp hne
    rw [Zcb, decide_eq_true (by omega), ifT, hay, Zo]
    cases hq : Q y with
    | true =>
     rw [hq, ifT] at hlp
     have hly : l[lp.length]? = some y := by rw [hlp]; simp
     have := (ih (pre ++ [y]) (lp ++ [y]) (by rw [ha]; simp) (by rw [hlp]; simp)).2
     rw [List.length_append, List.length_append] at this
     rw [hly, Zo, Zf1, decide_eq_true rfl, Bool.not_true, Zo, ifF, show ((((pre.length : Nat) : Int)) == ((all.length : Nat) : Int)) = false from by simp; omega, ifF, ZdN _ (by omega)]
     exact this
    | false =>
     rw [hq, ifF] at hlp hne
     have := (ih (pre ++ [y]) lp (by rw [ha]; simp) hlp).1 hne
     rw [List.length_append] at this
     obtain ⟨z, zs, hz⟩ := List.exists_cons_of_ne_nil hne
     have hlz : l[lp.length]? = some z := by rw [hlp, hz]; simp
     have hzm : z ∈ rest := (List.mem_filter.1 (by rw [hz]; simp : z ∈ rest.filter Q)).1
     have hyz : y ≠ z := by
      intro e
      rw [ha] at hn
      have := (List.nodup_append.1 hn).2.1
      rw [List.nodup_cons] at this
      exact this.1 (e ▸ hzm)
     rw [hlz, Zo, Zf1, decide_eq_false hyz, Bool.not_false, Zo, ifT, ZdN _ (by omega)]
     exact this
   refine ⟨h2, ?_⟩
   by_cases hne : (y :: rest).filter Q = []
   ·rw [ZaY, hlp, hne, List.append_nil, decide_eq_false (by omega), ifF]
   ·rw [ZaY, decide_eq_true, ifT]
    ·exact h2 hne
    ·rw [hlp, List.length_append]
     have : 0 < ((y :: rest).filter Q).length := List.length_pos_iff.2 hne
     omega
 have := (key all [] [] rfl hL.symm).2
 exact this
structure LB (b : Za) : Prop where
 fr : ∀ k ∈ b.fFree, k ∉ b.fParams
 li : ∃ L, ZfE b.fBody = some L ∧ ZdL b.fFree L = some true
 bd : Z9 b.fBody = some true
theorem ZB9 (e : Zj) (i : Nat) (b : Za) (h : LB b) : ∀ (s : List ByteArray) (k : Nat), (∀ x ∈ s, x ∈ b.fFree) → Zco i k e b s = Zb2 (i + 1) e := by
 intro s
 induction s with
 | nil =>
  intro k _
  obtain ⟨L, h1, h2⟩ := h.li
  rw [Zco]
  show (ZfE b.fBody >>= _) = _
  rw [h1, Zo, h2, Zo, Bool.not_true, ifF, h.bd]; rfl
 | cons x s ih =>
  intro k hs
  rw [Zco]
  show (Zd9 b.fParams x >>= _) = _
  rw [ZAZ, Zo, show mb b.fParams x = false from decide_eq_false (h.fr x (hs x (by simp))), ifF]
  exact ih (k + 1) fun y hy => hs y (by simp [hy])
theorem Zzu (e : Zj) (hb : ∀ b ∈ e.fBinds, LB b) (hk : ∀ x ∈ e.fKids, Z9 x = some true) (ha : ∀ x ∈ e.fAlts, Z9 x.fBody = some true) : Z9 e = some true := by
 have h4 : ∀ (s : List Zf) (i : Nat), (∀ x ∈ s, Z9 x.fBody = some true) → Zcp i e s = some true := by
  intro s
  induction s with
  | nil => intro i _; rw [Zcp]
  | cons x s ih =>
   intro i hs
   rw [Zcp]
   show (Z9 x.fBody >>= _) = _
   rw [hs x (by simp), Zo, Bool.not_true, ifF]
   exact ih _ fun y hy => hs y (by simp [hy])
 have h3 : ∀ (s : List Zj) (i : Nat), (∀ x ∈ s, Z9 x = some true) → Zcn i e s = some true := by
  intro s
  induction s with
  | nil => intro i _; rw [Zcn]; exact h4 _ _ ha
  | cons x s ih =>
   intro i hs
   rw [Zcn]
   show (Z9 x >>= _) = _
   rw [hs x (by simp), Zo, Bool.not_true, ifF]
   exact ih _ fun y hy => hs y (by simp [hy])
 have h1 : ∀ (s pre : List Za), e.fBinds = pre ++ s → Zb2 pre.length e = some true := by
  intro s
  induction s with
  | nil => intro pre hp; rw [Zb2, hp, List.append_nil, decide_eq_false (by omega), ifF]; exact h3 _ _ hk
  | cons x s ih =>
   intro pre hp
   have hx : e.fBinds[pre.length]? = some x := by rw [hp]; simp
   have := ih (pre ++ [x]) (by rw [hp]; simp)
   rw [List.length_append] at this
   rw [Zb2, decide_eq_true (by rw [hp, List.length_append, List.length_cons]; omega), ifT, hx, Zo, ZB9 e _ x (hb x (by rw [hp]; simp)) _ _ (fun y hy => hy)]
   exact this
 rw [Z9]
 exact h1 e.fBinds [] rfl
def Zps (l : List Zk) (s : ByteArray) : Option Int := (l.find? fun c => decide (c.fName = s)).map (·.fArity)
def ZwO (o : Option Int) (n : Int) : Bool := match o with | none => true | some a => decide (a = n)
theorem Zp7 (l : List Zk) (s : ByteArray) (n : Int) : Zbs l s n = some (ZwO (Zps l s) n) := by
 have key : ∀ (r : List Zk) (i : Nat), (Zbo l s i r >>= fun r1 => some ((!r1.2) || (r1.1.fArity == n))) = some (ZwO (Zps r s) n) := by
  intro r
  induction r with
  | nil => intro i; rw [Zbo]; rfl
  | cons x r ih =>
   intro i
   rw [Zbo]
   show ((if (x.fName.toList == s.toList) = true then some (x, true) else Zbo l s (i + 1) r) >>= _) = _
   rw [Zf1]
   unfold Zps
   rw [List.find?_cons]
   by_cases h : x.fName = s
   ·rw [decide_eq_true h, ifT, Zo]
    show some (false || (x.fArity == n)) = some (decide (x.fArity = n))
    rw [Bool.false_or, ieq]
   ·rw [decide_eq_false h, ifF]
    exact ih _
 rw [Zbs, ZeI]
 exact key l 0
structure KS (c : Zb) (N : Nat) : Prop where
 nn : ∀ x, 0 ≤ bg c.flocal x
 up : ∀ x, bg c.flocal x + N ≤ 10000000000
theorem KS.le {c : Zb} {N M : Nat} (h : KS c N) (hm : M ≤ N) : KS c M := ⟨h.nn, fun x => by have := h.up x; omega⟩
structure CD (c c' : Zb) (ok : Bool) : Prop where
 co : c'.fcons = c.fcons
 bs : ∀ x, bg c'.flocal x = bg c.flocal x
 bad : c'.fbad = (c.fbad || !ok)
def Zom (c : Zb) (p : Zi) : Prop := c.fbad = false → ∀ s, Zeq s c.fcons = Zps p.fCons s
theorem CD.ks {c c' : Zb} {ok : Bool} {N : Nat} (h : CD c c' ok) (k : KS c N) : KS c' N := ⟨fun x => by rw [h.bs]; exact k.nn x, fun x => by rw [h.bs]; exact k.up x⟩
theorem CD.agree {c c' : Zb} {ok : Bool} {p : Zi} (h : CD c c' ok) (k : Zom c p) : Zom c' p := fun hb s => by
 rw [h.co]
 refine k ?_ s
 rw [h.bad, Bool.or_eq_false_iff] at hb
 exact hb.1
theorem CD.pr {c c' : Zb} {ok : Bool} (h : CD c c' ok) : pr c'.flocal = pr c.flocal := Zj2 h.bs
theorem CD.trans {c c1 c2 : Zb} {a b : Bool} (h : CD c c1 a) (k : CD c1 c2 b) : CD c c2 (a && b) := ⟨k.co.trans h.co, fun x => (k.bs x).trans (h.bs x), by rw [k.bad, h.bad]; cases c.fbad <;> cases a <;> cases b <;> rfl⟩
theorem CD.refl (c : Zb) : CD c c true := ⟨rfl, fun _ => rfl, by simp⟩
theorem Zib (c : Zb) (b : Bool) : ∃ c', Zy c b = some c' ∧ c'.flocal = c.flocal ∧ CD c c' b := ⟨_, Zic c b, rfl, rfl, fun _ => rfl, rfl⟩
theorem ZCx {α : Type} (x : Option α) : (x >>= fun r => some r) = x := by cases x <;> rfl
theorem ZBc (c : Zb) (p : Zi) (s : ByteArray) (n : Int) (h : Zom c p) : ∃ c', ZbG c s n = some c' ∧ c'.flocal = c.flocal ∧ CD c c' (ZwO (Zps p.fCons s) n) := by
 have hm : ∃ ok, ZbG c s n = Zy c ok ∧ (c.fbad = false → ok = ZwO (Zps p.fCons s) n) := by
  rw [ZbG]
  unfold ZbW
  cases hf : Zeq s c.fcons with
  | none => exact ⟨true, by show (Zy c true >>= fun r2 => some r2) = _; exact ZCx _, fun hb => by rw [← h hb s, hf]; rfl⟩
  | some v => exact ⟨(false || (v == n)), by show (Zy c (false || (v == n)) >>= fun r2 => some r2) = _; exact ZCx _, fun hb => by rw [← h hb s, hf]; show (false || (v == n)) = decide (v = n); rw [Bool.false_or, ieq]⟩
 obtain ⟨ok, h1, h2⟩ := hm
 rw [h1, Zic]
 refine ⟨_, rfl, rfl, rfl, fun _ => rfl, ?_⟩
 show (c.fbad || !ok) = _
 cases hb : c.fbad with
 | true => rfl
 | false => rw [h2 hb]
theorem Zmg {c : Zb} {l : List ByteArray} {N : Nat} (h : KS c (l.length + N)) : KS (Zb.mk c.fcons (upM c.flocal l) c.fbad) N ∧ pr (upM c.flocal l) = (fun x => pr c.flocal x || mb l x) := by
 have hb : ∀ x, 0 ≤ bg c.flocal x ∧ bg c.flocal x + l.length ≤ 100000000000 := fun x => ⟨h.nn x, by have := h.up x; omega⟩
 refine ⟨⟨fun x => ?_, fun x => ?_⟩, ZCn hb⟩
 ·show 0 ≤ bg (upM c.flocal l) x
  rw [ZqQ l _ hb]; have := h.nn x; have := Zpy x l; omega
 ·show bg (upM c.flocal l) x + _ ≤ _
  rw [ZqQ l _ hb]; have := h.up x; have := Ztc x l; omega
theorem Zki {c r : Zb} {l : List ByteArray} {N : Nat} {ok : Bool} (h : KS c (l.length + N)) (hr : CD (Zb.mk c.fcons (upM c.flocal l) c.fbad) r ok) : CD c (Zb.mk r.fcons (dnM r.flocal l) r.fbad) ok := by
 have h1 : ∀ x, 0 ≤ bg c.flocal x ∧ bg c.flocal x + l.length ≤ 100000000000 := fun x => ⟨h.nn x, by have := h.up x; omega⟩
 have h2 : ∀ x, bg r.flocal x = bg c.flocal x + cnt x l := fun x => by rw [hr.bs x]; exact ZqQ l _ h1 x
 refine ⟨hr.co, fun x => ?_, hr.bad⟩
 show bg (dnM r.flocal l) x = _
 rw [ZAL l _ (fun z => ?_), h2 x]
 ·omega
 ·rw [h2 z]; have := h1 z; have := Zpy z l; have := Ztc z l; have := h.up z; omega
theorem Zso (a b : List ByteArray) : mb (a ++ b) = fun x => mb a x || mb b x := by
 funext x; unfold mb; rw [Bool.eq_iff_iff]; simp
def CE (p : Zi) (e : Zj) : Prop := ∀ local_ : List ByteArray, local_.length + 2 * e.vol ≤ 10000000000 → ∃ ok, ZbT p e local_ = some ok ∧ (ok = true → Z9 e = some true) ∧
 ∀ (c : Zb) (N : Nat), KS c (2 * e.vol + N) → pr c.flocal = mb local_ → Zom c p → ∃ c', Za1 c e = some c' ∧ CD c c' ok
def Zus (b : Za) : Bool := (((b.fOp == 1) && (decide (((b.fParams.length : Nat) : Int) > 0))) || ((b.fOp == 2) && (((b.fParams.length : Nat) : Int) == 0))) || (((b.fOp == 3) && (((b.fParams.length : Nat) : Int) == 0)) && (b.fBody.fOp == 3))
def BI (p : Zi) (b : Za) : Prop := ∀ local_ : List ByteArray, local_.length + b.fParams.length + 2 * b.fBody.vol ≤ 10000000000 → ∃ ok, ZaW p b local_ = some ok ∧ (ok = true → LB b ∧ (local_ = [] → b.fFree = [])) ∧
 ∀ (c : Zb) (N : Nat) (top : Bool), (top = true → local_ = []) → KS c (2 * b.fBody.vol + b.fParams.length + N) → pr c.flocal = mb local_ → Zom c p → ∃ c', ZaP c b top = some c' ∧ CD c c' ok
theorem Zxr (p : Zi) (b : Za) (hv : b.vol ≤ 1000000000) (h : CE p b.fBody) : BI p b := by
 intro local_ hl
 have hbv := ZfS b
 have hpl := Zjo b.fParams
 obtain ⟨L, f1, f2, f3, f4, f5⟩ := Zre b hv
 obtain ⟨L', _, g2, _, _⟩ := ZoQ b.fBody (by omega)
 have hLL : ZfE b.fBody = some L := by
  obtain ⟨L2, k1, k2, _, _⟩ := ZoQ b.fBody (by omega)
  rw [f1] at k1; injection k1 with k1; rw [k2, k1]
 have hFB : ad (mb b.fParams) [] L = L.filter (fun x => !mb b.fParams x) := by rw [Zqh _ L [] (by simpa using f3)]; rfl
 generalize hF : ad (mb b.fParams) [] L = FB at f4 f5 hFB
 have hFl : FB.length ≤ 1000000000 := by
  rw [hFB]; have := List.length_filter_le (fun x => !mb b.fParams x) L; omega
 obtain ⟨okE, e1, e2, e3⟩ := h (local_ ++ b.fParams) (by rw [List.length_append]; omega)
 have hfm : ∀ (s want : List ByteArray) (i : Nat), want.length + s.length ≤ 1000000000 → Zbi local_ want FB i p b s = if want ++ s.filter (mb local_) = b.fFree then some okE else some false := by
  intro s
  induction s with
  | nil =>
   intro want i hw
   rw [Zbi, List.filter_nil, List.append_nil]
   by_cases hlen : want.length = b.fFree.length
   ·show (if (((want.length : Nat) : Int) != ((b.fFree.length : Nat) : Int)) = true then some false else Za3 local_ want 0 p b want) = _
    rw [show ((((want.length : Nat) : Int) != ((b.fFree.length : Nat) : Int)) = false) from by simp [hlen], ifF]
    have key : ∀ (s t pre q : List ByteArray), want = pre ++ s → b.fFree = q ++ t → q.length = pre.length → t.length = s.length → Za3 local_ want pre.length p b s = if s = t then some okE else some false := by
     intro s
     induction s with
     | nil =>
      intro t pre q _ _ _ ht
      rw [List.length_nil, List.length_eq_zero_iff] at ht
      rw [Za3, ht, if_pos rfl]
      show (ZaK ((([] : List ByteArray).length + local_.length) * 16 ≤ 140737488355328) >>= fun _ => ZaK (((([] : List ByteArray) ++ local_).length + b.fParams.length) * 16 ≤ 140737488355328) >>= fun _ => ZbT p b.fBody ((([] : List ByteArray) ++ local_) ++ b.fParams) >>= fun ZBG => some ZBG) = _
      rw [ZdN _ (by simp; omega), ZdN _ (by simp; omega), List.nil_append, e1]; rfl
     | cons x s ih =>
      intro t pre q ha hb hq ht
      cases t with
      | nil => simp at ht
      | cons y t =>
       have hg : b.fFree[pre.length]? = some y := by rw [hb, ← hq]; simp
       have := ih t (pre ++ [x]) (q ++ [y]) (by rw [ha]; simp) (by rw [hb]; simp) (by simp [hq]) (by simpa using ht)
       rw [List.length_append] at this
       have h' : Za3 local_ want (pre.length + 1) p b s = if s = t then some okE else some false := this
       rw [Za3]
       show (b.fFree[pre.length]? >>= _) = _
       rw [hg, Zo, Zf1, h']
       by_cases e : x = y
       ·rw [decide_eq_true e, Bool.not_true, ifF, e]; simp
       ·rw [decide_eq_false e, Bool.not_false, ifT, if_neg]; intro h; injection h with h; exact e h
    exact key want b.fFree [] [] rfl rfl rfl hlen.symm
   ·show (if (((want.length : Nat) : Int) != ((b.fFree.length : Nat) : Int)) = true then some false else Za3 local_ want 0 p b want) = _
    rw [show ((((want.length : Nat) : Int) != ((b.fFree.length : Nat) : Int)) = true) from by simp; omega, ifT, if_neg]
    intro h; exact hlen (by rw [h])
  | cons x s ih =>
   intro want i hw
   rw [List.length_cons] at hw
   rw [Zbi]
   show (Zc9 local_ x >>= _) = _
   rw [Zvp, Zo, List.filter_cons]
   cases mb local_ x with
   | true => rw [ifT, ZdN _ (by simp; omega), ih _ _ (by simp; omega), ifT, List.append_assoc]; rfl
   | false => rw [ifF, ih _ _ (by omega), ifF]
 have hpm : ∀ (c : Zb) (top : Bool), (top = true → local_ = []) → (∀ x, 0 ≤ bg c.flocal x) → pr c.flocal = mb local_ → ∀ (s want : List ByteArray) (i : Nat), want.length + s.length ≤ 1000000000 → ZbK top want FB i b c s = (Zy c (decide (want ++ s.filter (mb local_) = b.fFree)) >>= fun r70 => Zae b.fParams r70 b >>= fun r72 => some r72) := by
  intro c top ht hnn hpr s
  induction s with
  | nil =>
   intro want i _
   rw [ZbK, List.filter_nil, List.append_nil]
   show (ZaB want b.fFree >>= _) = _
   rw [ZqX, Zo]
  | cons x s ih =>
   intro want i hw
   rw [List.length_cons] at hw
   rw [ZbK, List.filter_cons]
   obtain ⟨q, hq⟩ := Zdm c.flocal x
   have hc : (if (!top) = true then ZbW c.flocal 0 x >>= fun r62 => some (decide (r62.1 > 0)) else some false) = some (mb local_ x) := by
    rw [hq]
    cases htop : top with
    | true => rw [ht htop]; rfl
    | false =>
     rw [Bool.not_false, ifT, Zo, ← hpr]
     unfold pr
     congr 1
     apply decide_eq_decide.2
     have := hnn x
     omega
   show ((if (!top) = true then ZbW c.flocal 0 x >>= fun r62 => some (decide (r62.1 > 0)) else some false) >>= _) = _
   rw [hc, Zo]
   cases mb local_ x with
   | true => rw [ifT, ZdN _ (by simp; omega), ih _ _ (by simp; omega), ifT, List.append_assoc]; rfl
   | false => rw [ifF, ih _ _ (by omega), ifF]
 have hfr : Zus b = ((((b.fOp == 1) && (decide (((b.fParams.length : Nat) : Int) > 0))) || ((b.fOp == 2) && (((b.fParams.length : Nat) : Int) == 0))) || (((b.fOp == 3) && (((b.fParams.length : Nat) : Int) == 0)) && (b.fBody.fOp == 3))) := rfl
 refine ⟨((Zus b && (Zdx b.fName && Zen [] b.fParams)) && decide (FB.filter (mb local_) = b.fFree)) && okE, ?_, ?_, ?_⟩
 ·rw [ZaW, ← hfr, (Zd8 b.fName).2, ZjL, f4]
  cases Zus b with
  | false => rfl
  | true =>
   cases Zdx b.fName with
   | false => rfl
   | true =>
    cases Zen [] b.fParams with
    | false => rfl
    | true =>
     show Zbi local_ [] FB 0 p b FB = _
     rw [hfm FB [] 0 (by simpa using hFl), List.nil_append]
     by_cases he : FB.filter (mb local_) = b.fFree
     ·rw [if_pos he, decide_eq_true he]; rfl
     ·rw [if_neg he, decide_eq_false he]; rfl
 ·intro hok
  rw [Bool.and_eq_true, Bool.and_eq_true, decide_eq_true_eq] at hok
  obtain ⟨⟨_, hfe⟩, hoE⟩ := hok
  refine ⟨⟨?_, ⟨L, hLL, ?_⟩, e2 hoE⟩, fun h0 => ?_⟩
  ·intro k hk
   rw [← hfe, hFB, List.filter_filter, List.mem_filter] at hk
   have := hk.2
   rw [Bool.and_eq_true, Bool.not_eq_true'] at this
   exact of_decide_eq_false this.2
  ·rw [← hfe, hFB, List.filter_filter]
   exact Zyw L _ f3 (by omega)
  ·rw [← hfe, h0, Zu5]
   exact List.filter_eq_nil_iff.2 fun x _ => by simp
 ·intro c N top ht hks hpr hag
  have hfo : ∃ c1, ZaP c b top = Zbr top b c1.fbad c1.fcons c1.flocal ∧ c1.flocal = c.flocal ∧ CD c c1 (Zus b) := by
   rw [ZaP]
   unfold Zus
   by_cases h1 : b.fOp = 1
   ·rw [show (b.fOp == 1) = true from by rw [ieq]; exact decide_eq_true h1, ifT, show (b.fOp == 2) = false from by rw [ieq]; exact decide_eq_false (by omega), show (b.fOp == 3) = false from by rw [ieq]; exact decide_eq_false (by omega)]
    obtain ⟨c1, n1, n2, n3⟩ := Zib c (decide (((b.fParams.length : Nat) : Int) > 0))
    exact ⟨c1, by rw [n1]; rfl, n2, by simpa using n3⟩
   ·rw [show (b.fOp == 1) = false from by rw [ieq]; exact decide_eq_false h1, ifF]
    by_cases h2 : b.fOp = 2
    ·rw [show (b.fOp == 2) = true from by rw [ieq]; exact decide_eq_true h2, ifT, show (b.fOp == 3) = false from by rw [ieq]; exact decide_eq_false (by omega)]
     obtain ⟨c1, n1, n2, n3⟩ := Zib c (((b.fParams.length : Nat) : Int) == 0)
     exact ⟨c1, by rw [n1]; rfl, n2, by simpa using n3⟩
    ·rw [show (b.fOp == 2) = false from by rw [ieq]; exact decide_eq_false h2, ifF]
     by_cases h3 : b.fOp = 3
     ·rw [show (b.fOp == 3) = true from by rw [ieq]; exact decide_eq_true h3, ifT]
      obtain ⟨c1, n1, n2, n3⟩ := Zib c ((((b.fParams.length : Nat) : Int) == 0) && (b.fBody.fOp == 3))
      exact ⟨c1, by rw [n1]; rfl, n2, by simpa using n3⟩
     ·rw [show (b.fOp == 3) = false from by rw [ieq]; exact decide_eq_false h3, ifF]
      exact ⟨Zb.mk c.fcons c.flocal true, rfl, rfl, rfl, fun _ => rfl, by simp⟩
  obtain ⟨c1, a1, a2, a3⟩ := hfo
  obtain ⟨c2, b1, b2, b3⟩ := Zib c1 (Zdx b.fName && Zen [] b.fParams)
  have hnd : (if Zdx b.fName = true then ZdB b.fParams >>= fun r15 => some r15 else some false) = some (Zdx b.fName && Zen [] b.fParams) := by
   rw [Zhw]; cases Zdx b.fName <;> rfl
  obtain ⟨c3, d1, d2, d3⟩ := Zib c2 (decide (FB.filter (mb local_) = b.fFree))
  have k3 : CD c c3 ((Zus b && (Zdx b.fName && Zen [] b.fParams)) && decide (FB.filter (mb local_) = b.fFree)) := (a3.trans b3).trans d3
  have h0 : KS c3 (b.fParams.length + (2 * b.fBody.vol + N)) := k3.ks (hks.le (by omega))
  obtain ⟨s1, s2⟩ := Zmg h0
  obtain ⟨c4, x1, x2⟩ := e3 (Zb.mk c3.fcons (upM c3.flocal b.fParams) c3.fbad) N s1 (by
   show pr (upM c3.flocal b.fParams) = _
   rw [s2, k3.pr, hpr, Zso]) (k3.agree hag)
  refine ⟨_, ?_, k3.trans (Zki h0 x2)⟩
  rw [a1, Zbr, (Zd8 b.fName).1, Zo, hnd, Zo, b1, Zo, f5, Zo, hpm c2 top ht (fun x => by rw [b2, a2]; exact hks.nn x) (by rw [b2, a2]; exact hpr) FB [] 0 (by simpa using hFl), List.nil_append, d1, Zo, Zi2, ZbH, x1]
  rfl

noncomputable def oE (p : Zi) (e : Zj) (l : List ByteArray) : Bool := (ZbT p e l).getD false
noncomputable def oB (p : Zi) (b : Za) (l : List ByteArray) : Bool := (ZaW p b l).getD false
def Zt5 (p : Zi) (a : Zf) : Bool := if a.fOp = 1 then ZwO (Zps p.fCons a.fName) ((a.fVars.length : Nat) : Int) else true
theorem Ztq {p : Zi} {e : Zj} (h : CE p e) {l : List ByteArray} (hl : l.length + 2 * e.vol ≤ 10000000000) : ZbT p e l = some (oE p e l) ∧ (oE p e l = true → Z9 e = some true) ∧
  ∀ (c : Zb) (N : Nat), KS c (2 * e.vol + N) → pr c.flocal = mb l → Zom c p → ∃ c', Za1 c e = some c' ∧ CD c c' (oE p e l) := by
 obtain ⟨ok, h1, h2, h3⟩ := h l hl
 have : oE p e l = ok := by unfold oE; rw [h1]; rfl
 rw [this]
 exact ⟨h1, h2, h3⟩
theorem ZuB {p : Zi} {b : Za} (h : BI p b) {l : List ByteArray} (hl : l.length + b.fParams.length + 2 * b.fBody.vol ≤ 10000000000) : ZaW p b l = some (oB p b l) ∧ (oB p b l = true → LB b ∧ (l = [] → b.fFree = [])) ∧
  ∀ (c : Zb) (N : Nat) (top : Bool), (top = true → l = []) → KS c (2 * b.fBody.vol + b.fParams.length + N) → pr c.flocal = mb l → Zom c p → ∃ c', ZaP c b top = some c' ∧ CD c c' (oB p b l) := by
 obtain ⟨ok, h1, h2, h3⟩ := h l hl
 have : oB p b l = ok := by unfold oB; rw [h1]; rfl
 rw [this]
 exact ⟨h1, h2, h3⟩
theorem ZC5 (p : Zi) (e : Zj) (local_ names around : List ByteArray) : ∀ (s : List Za), (∀ b ∈ s, BI p b ∧ around.length + b.fParams.length + 2 * b.fBody.vol ≤ 10000000000) → ∀ i, ZcG local_ names around i p e s = if s.all (oB p · around) = true then Zcj local_ names 0 p e e.fKids else some false := by
 intro s
 induction s with
 | nil => intro _ i; rw [ZcG]; rfl
 | cons b s ih =>
  intro hs i
  rw [ZcG, List.all_cons]
  show (ZaW p b around >>= _) = _
  rw [(ZuB (hs b (by simp)).1 (hs b (by simp)).2).1, Zo]
  cases oB p b around with
  | true => rw [Bool.not_true, ifF, Bool.true_and]; exact ih (fun c hc => hs c (by simp [hc])) _
  | false => rw [Bool.not_false, ifT]; rfl
theorem ZzR (p : Zi) (e : Zj) (around : List ByteArray) : ∀ (s : List Za), (∀ b ∈ s, BI p b ∧ around.length + b.fParams.length + 2 * b.fBody.vol ≤ 10000000000) → ∀ (c : Zb) (N i : Nat), KS c (Zk9 s + N) → pr c.flocal = mb around → Zom c p →
  ∃ c', Za6 e i c.fbad c.fcons c.flocal s = some c' ∧ CD c c' (s.all (oB p · around)) := by
 intro s
 induction s with
 | nil => intro _ c N i _ _ _; exact ⟨c, by rw [Za6], CD.refl c⟩
 | cons b s ih =>
  intro hs c N i hk hp ha
  rw [Zk9] at hk
  obtain ⟨c1, h1, h2⟩ := (ZuB (hs b (by simp)).1 (hs b (by simp)).2).2.2 c (Zk9 s + N) false (fun h => by cases h) (hk.le (by omega)) hp ha
  obtain ⟨c2, k1, k2⟩ := ih (fun c hc => hs c (by simp [hc])) c1 N (i + 1) (h2.ks (hk.le (by omega))) (h2.pr.trans hp) (h2.agree ha)
  refine ⟨c2, ?_, h2.trans k2⟩
  rw [Za6]
  show (ZaP c b false >>= _) = _
  rw [h1, Zo, k1]
theorem ZG9 (p : Zi) (e : Zj) (local_ names : List ByteArray) : ∀ (s : List Zj), (∀ b ∈ s, CE p b ∧ (local_ ++ names).length + 2 * b.vol ≤ 10000000000) → ∀ i, Zcj local_ names i p e s = if s.all (oE p · (local_ ++ names)) = true then Zcf local_ 0 p e e.fAlts else some false := by
 intro s
 induction s with
 | nil => intro _ i; rw [Zcj]; rfl
 | cons b s ih =>
  intro hs i
  rw [Zcj, List.all_cons]
  show (ZbT p b ((([] : List ByteArray) ++ local_) ++ names) >>= _) = _
  rw [List.nil_append, (Ztq (hs b (by simp)).1 (hs b (by simp)).2).1, Zo]
  cases oE p b (local_ ++ names) with
  | true => rw [Bool.not_true, ifF, Bool.true_and]; exact ih (fun c hc => hs c (by simp [hc])) _
  | false => rw [Bool.not_false, ifT]; rfl
theorem ZGg (p : Zi) (e : Zj) (local_ : List ByteArray) (hl : local_.length ≤ 10000000000) : ∀ (s : List Zf), (∀ b ∈ s, CE p b.fBody ∧ b.vol ≤ 1000000000 ∧ ((local_ ++ [e.fName]) ++ b.fVars).length + 2 * b.fBody.vol ≤ 10000000000) → ∀ i,
  Zcf local_ i p e s = some (s.all (fun a => Zen [] (e.fName :: a.fVars)) && s.all (fun a => Zt5 p a && oE p a.fBody ((local_ ++ [e.fName]) ++ a.fVars))) := by
 intro s
 induction s with
 | nil => intro _ i; rw [Zcf]; rfl
 | cons a s ih =>
  intro hs i
  have ha := hs a (by simp)
  have hav := Ziz a
  have hsb := Zjo a.fVars
  have hrec := ih (fun c hc => hs c (by simp [hc])) (i + 1)
  have hce := (Ztq ha.1 ha.2.2).1
  have hsat : (if (a.fOp == 1) = true then Zbs p.fCons a.fName ((a.fVars.length : Nat) : Int) >>= fun Zyz => some (!Zyz) else some false) = some (!Zt5 p a) := by
   unfold Zt5
   rw [Zp7, ieq]
   by_cases h : a.fOp = 1
   ·rw [decide_eq_true h, ifT, if_pos h]; rfl
   ·rw [decide_eq_false h, ifF, if_neg h]; rfl
  rw [Zcf, List.all_cons, List.all_cons]
  show ((if (a.fOp == 1) = true then Zbs p.fCons a.fName ((a.fVars.length : Nat) : Int) >>= fun Zyz => some (!Zyz) else some false) >>= _) = _
  rw [hsat, Zo, ZjL, ZdN _ (by simp; omega), ZdN _ (by simp; omega), ZdN _ (by simp; omega), ZdN _ (by simp at *; omega), hrec, List.nil_append, hce, show [e.fName] ++ a.fVars = e.fName :: a.fVars from rfl]
  generalize (s.all fun a => Zen [] (e.fName :: a.fVars)) = x1
  generalize (s.all fun a => Zt5 p a && oE p a.fBody (local_ ++ [e.fName] ++ a.fVars)) = x2
  cases Zt5 p a <;> cases Zen [] (e.fName :: a.fVars) <;> cases oE p a.fBody (local_ ++ [e.fName] ++ a.fVars) <;> cases x1 <;> cases x2 <;> rfl
theorem ZIb (p : Zi) (e : Zj) (loc : List ByteArray) : ∀ (s pre : List Zf), e.fAlts = pre ++ s → (∀ b ∈ s, CE p b.fBody ∧ (loc ++ b.fVars).length + 2 * b.fBody.vol ≤ 10000000000) → ∀ (c : Zb) (N : Nat), KS c (Zi5 s + N) → pr c.flocal = mb loc → Zom c p →
  ∃ c', Za7 e pre.length c.fbad c.fcons c.flocal = some c' ∧ CD c c' (s.all (fun a => Zt5 p a && oE p a.fBody (loc ++ a.fVars))) := by
 intro s
 induction s with
 | nil =>
  intro pre hp _ c N _ _ _
  exact ⟨c, by rw [Za7, hp, List.append_nil, decide_eq_false (by omega), ifF], CD.refl c⟩
 | cons a s ih =>
  intro pre hp hs c N hk hpr hag
  rw [Zi5] at hk
  have ha := hs a (by simp)
  have hx : e.fAlts[pre.length]? = some a := by rw [hp]; simp
  obtain ⟨c1, a1, a2, a3⟩ : ∃ c1, (if (a.fOp == 1) = true then ZbG c a.fName ((a.fVars.length : Nat) : Int) >>= fun r66 => ZaM e pre.length a r66.fbad r66.fcons r66.flocal else ZaM e pre.length a c.fbad c.fcons c.flocal) = ZaM e pre.length a c1.fbad c1.fcons c1.flocal ∧ c1.flocal = c.flocal ∧ CD c c1 (Zt5 p a) := by
   unfold Zt5
   rw [ieq]
   by_cases h : a.fOp = 1
   ·obtain ⟨c1, n1, n2, n3⟩ := ZBc c p a.fName ((a.fVars.length : Nat) : Int) hag
    exact ⟨c1, by rw [decide_eq_true h, ifT, n1]; rfl, n2, by rw [if_pos h]; exact n3⟩
   ·exact ⟨c, by rw [decide_eq_false h, ifF], rfl, by rw [if_neg h]; exact CD.refl c⟩
  have h0 : KS c1 (a.fVars.length + (2 * a.fBody.vol + (Zi5 s + N))) := a3.ks (hk.le (by omega))
  obtain ⟨s1, s2⟩ := Zmg h0
  obtain ⟨c2, x1, x2⟩ := (Ztq ha.1 ha.2).2.2 (Zb.mk c1.fcons (upM c1.flocal a.fVars) c1.fbad) (Zi5 s + N) s1 (by
   show pr (upM c1.flocal a.fVars) = _
   rw [s2, a3.pr, hpr, Zso]) (a3.agree hag)
  have x3 := Zki h0 x2
  have x4 := a3.trans x3
  obtain ⟨c3, k1, k2⟩ := ih (pre ++ [a]) (by rw [hp]; simp) (fun b hb => hs b (by simp [hb])) _ N (x4.ks (hk.le (by omega))) (x4.pr.trans hpr) (x4.agree hag)
  rw [List.length_append] at k1
  refine ⟨c3, ?_, by rw [List.all_cons]; exact x4.trans k2⟩
  rw [Za7, decide_eq_true (by rw [hp, List.length_append, List.length_cons]; omega), ifT, hx, Zo]
  show (if (a.fOp == 1) = true then ZbG c a.fName ((a.fVars.length : Nat) : Int) >>= fun r66 => ZaM e pre.length a r66.fbad r66.fcons r66.flocal else ZaM e pre.length a c.fbad c.fcons c.flocal) = _
  rw [a1, ZaM]
  show (Zai a.fVars c1 a >>= _) = _
  rw [ZlQ, Zbw, x1]
  exact k1
theorem ZDs (e : Zj) : ∀ (s : List ZJ) (c : Zb) (i : Nat), ∃ c', Zak e i c.fbad c.fcons c.flocal s = Zak e (i + s.length) c'.fbad c'.fcons c'.flocal [] ∧ c'.flocal = c.flocal ∧ CD c c' (s.all atB) := by
 intro s
 induction s with
 | nil => intro c i; exact ⟨c, rfl, rfl, CD.refl c⟩
 | cons a s ih =>
  intro c i
  obtain ⟨c1, n1, n2, n3⟩ := Zib c (atB a)
  have hstep : ∃ c2, Zak e i c.fbad c.fcons c.flocal (a :: s) = Zak e (i + 1) c2.fbad c2.fcons c2.flocal s ∧ c2.flocal = c.flocal ∧ CD c c2 (atB a) := by
   rw [Zak]
   show ∃ c2, (Zis a >>= fun r60 => Zy c r60 >>= fun r61 => if (a.fOp == 1) = true then Zb9 r61 a.fName >>= fun r63 => Zak e (i + 1) r63.fbad r63.fcons r63.flocal s else Zak e (i + 1) r61.fbad r61.fcons r61.flocal s) = _ ∧ _
   rw [(Zt6 a).1, Zo, n1, Zo, ieq]
   by_cases h : a.fOp = 1
   ·obtain ⟨c2, m1, m2, m3⟩ := Zib c1 (Zdx a.fName)
    refine ⟨c2, ?_, m2.trans n2, ?_⟩
    ·rw [decide_eq_true h, ifT, Zb9, (Zd8 a.fName).1, Zo, m1]; rfl
    ·have := n3.trans m3
     have he : (atB a && Zdx a.fName) = atB a := by
      unfold atB
      rw [if_pos h]
      cases Zdx a.fName <;> cases decide (a.fN = 0) <;> rfl
     rwa [he] at this
   ·exact ⟨c1, by rw [decide_eq_false h, ifF], n2, n3⟩
  obtain ⟨c2, s1, s2, s3⟩ := hstep
  obtain ⟨c3, k1, k2, k3⟩ := ih c2 (i + 1)
  refine ⟨c3, ?_, k2.trans s2, by rw [List.all_cons]; exact s3.trans k3⟩
  rw [s1, k1, List.length_cons, show i + 1 + s.length = i + (s.length + 1) from by omega]
theorem ZxS : ∀ (s pre : List Zf), Zf3 pre s = true → ∀ a ∈ s, alB a = true
 | [], _, _, a, ha => absurd ha List.not_mem_nil
 | x :: s, pre, h, a, ha => by
  rw [Zf3, Bool.and_eq_true, Bool.and_eq_true, Bool.and_eq_true] at h
  rcases List.mem_cons.1 ha with rfl | ha
  ·exact h.1.1.1
  ·exact ZxS s _ h.2 a ha
theorem ZBB {a : Zf} (h : alB a = true) (h1 : a.fOp ≠ 1) : a.fVars = [] := by
 unfold alB at h
 rw [if_neg h1] at h
 rw [← List.length_eq_zero_iff]
 by_cases h2 : a.fOp = 2
 ·rw [if_pos h2] at h; simp at h; simp [h.2]
 ·rw [if_neg h2] at h
  by_cases h3 : a.fOp = 3
  ·rw [if_pos h3] at h; simp at h; simp [h.1.1.2]
  ·rw [if_neg h3] at h
   by_cases h4 : a.fOp = 4
   ·rw [if_pos h4] at h; simp at h; simp [h.2]
   ·rw [if_neg h4] at h; cases h
theorem ZEF {n : ByteArray} (hn : Zdx n = true) {l : List Zf} (h : Zf3 [] l = true) : l.all (fun a => Zen [] (n :: a.fVars)) = l.all (avB n) := by
 have hal := ZxS l [] h
 rw [Bool.eq_iff_iff, List.all_eq_true, List.all_eq_true]
 have key : ∀ a ∈ l, Zen [] (n :: a.fVars) = avB n a := by
  intro a ha
  unfold avB
  by_cases h1 : a.fOp = 1
  ·rw [decide_eq_true h1]; rfl
  ·rw [decide_eq_false h1, ZBB (hal a ha) h1]
   show ((Zdx n && !decide (n ∈ ([] : List ByteArray))) && true) = true
   rw [hn]; rfl
 exact ⟨fun k a ha => by rw [← key a ha]; exact k a ha, fun k a ha => by rw [key a ha]; exact k a ha⟩
theorem ZBf (p : Zi) (e : Zj) : e.vol ≤ 1000000000 → CE p e := by
 refine ZA4 (M := fun e => e.vol ≤ 1000000000 → CE p e) (fun e ih hv => ?_) e
 intro local_ hl
 have hve := Zs4 e
 have hbc := Zsw e.fBinds
 have hac := ZtC e.fAlts
 have hal := ZuW e.fArgs
 have hbl := Zpv e.fBinds
 have hll := Zzw e.fAlts
 have hnm := Zif e.fBinds (by omega)
 have hnl : (e.fBinds.map (·.fName)).length = e.fBinds.length := List.length_map _
 generalize hnames : e.fBinds.map (·.fName) = names at hnm hnl
 have ihb : ∀ b ∈ e.fBinds, BI p b ∧ local_.length + names.length + b.fParams.length + 2 * b.fBody.vol ≤ 10000000000 := fun b hb => by
  have h1 : b.vol ≤ bB e.fBinds := Zeh (f := Za.cells) hb
  have h2 := ZfS b
  have h3 := Zjo b.fParams
  refine ⟨Zxr p b (by omega) (ih _ (by omega) (by omega)), ?_⟩
  have : ∀ s : List Za, b ∈ s → 2 * b.fBody.vol + b.fParams.length ≤ Zk9 s := by
   intro s
   induction s with
   | nil => intro h; exact absurd h List.not_mem_nil
   | cons x s ih3 =>
    intro h
    rw [Zk9]
    rcases List.mem_cons.1 h with rfl | h
    ·omega
    ·have := ih3 h; omega
  have := this _ hb
  omega
 have ihk : ∀ b ∈ e.fKids, CE p b ∧ (local_ ++ names).length + 2 * b.vol ≤ 10000000000 := fun b hb => by
  have h1 : b.vol ≤ kB e.fKids := Zeh (f := Zj.cells) hb
  exact ⟨ih _ (by omega) (by omega), by rw [List.length_append]; omega⟩
 have iha : ∀ b ∈ e.fAlts, CE p b.fBody ∧ b.vol ≤ 1000000000 ∧ ((local_ ++ [e.fName]) ++ b.fVars).length + 2 * b.fBody.vol ≤ 10000000000 := fun b hb => by
  have h1 : b.vol ≤ lB e.fAlts := Zeh (f := Zf.cells) hb
  have h2 := Ziz b
  have h3 := Zjo b.fVars
  exact ⟨ih _ (by omega) (by omega), by omega, by simp; omega⟩
 generalize har : (if e.fRec = true then local_ ++ names else local_) = around
 have harl : around.length ≤ local_.length + names.length := by rw [← har]; split <;> simp
 have ihb' : ∀ b ∈ e.fBinds, BI p b ∧ around.length + b.fParams.length + 2 * b.fBody.vol ≤ 10000000000 := fun b hb => ⟨(ihb b hb).1, by have := (ihb b hb).2; omega⟩
 have hC : ((if (e.fOp == 3) = true then Zbs p.fCons e.fName ((e.fArgs.length : Nat) : Int) >>= fun r19 => some (!r19) else some false) >>= fun c20 => some c20) = some (!(if e.fOp = 3 then ZwO (Zps p.fCons e.fName) ((e.fArgs.length : Nat) : Int) else true)) := by
  rw [Zp7, ieq]
  by_cases h : e.fOp = 3
  ·rw [decide_eq_true h, ifT, if_pos h]; rfl
  ·rw [decide_eq_false h, ifF, if_neg h]; rfl
 generalize hCv : (if e.fOp = 3 then ZwO (Zps p.fCons e.fName) ((e.fArgs.length : Nat) : Int) else true) = C at hC
 have hR : ZbT p e local_ = some (((((e.fArgs.all atB && shB e) && Zf3 [] e.fAlts) && Zen [] names) && C) && (e.fBinds.all (oB p · around) && (e.fKids.all (oE p · (local_ ++ names)) && (e.fAlts.all (fun a => Zen [] (e.fName :: a.fVars)) && e.fAlts.all (fun a => Zt5 p a && oE p a.fBody ((local_ ++ [e.fName]) ++ a.fVars)))))) := by
  have hk : (if e.fRec = true then ZbB local_ names ((([] : List ByteArray) ++ local_) ++ names) p e else ZbB local_ names local_ p e) = some (e.fBinds.all (oB p · around) && (e.fKids.all (oE p · (local_ ++ names)) && (e.fAlts.all (fun a => Zen [] (e.fName :: a.fVars)) && e.fAlts.all (fun a => Zt5 p a && oE p a.fBody ((local_ ++ [e.fName]) ++ a.fVars))))) := by
   have : (if e.fRec = true then ZbB local_ names ((([] : List ByteArray) ++ local_) ++ names) p e else ZbB local_ names local_ p e) = ZbB local_ names around p e := by
    rw [← har, List.nil_append]; cases e.fRec <;> rfl
   rw [this, ZbB, ZC5 p e local_ names around e.fBinds ihb', ZG9 p e local_ names e.fKids ihk, ZGg p e local_ (by omega) e.fAlts iha]
   cases e.fBinds.all (oB p · around) <;> cases e.fKids.all (oE p · (local_ ++ names)) <;> rfl
  rw [ZbT, ZyC, Zo, Ztn _ (by omega), hnm.1]
  rw [hC]
  simp only [Zo]
  rw [ZjL, ZdN _ (by simp; omega), ZdN _ (by simp; omega), hk]
  cases e.fArgs.all atB && shB e <;> cases Zf3 [] e.fAlts <;> cases Zen [] names <;> cases C <;> rfl
 refine ⟨_, hR, ?_, ?_⟩
 ·
  intro hok
  simp only [Bool.and_eq_true] at hok
  obtain ⟨_, hB, hK, _, hX⟩ := hok
  refine Zzu e (fun b hb => ?_) (fun x hx => ?_) fun x hx => ?_
  ·exact ((ZuB (ihb' b hb).1 (ihb' b hb).2).2.1 (List.all_eq_true.1 hB b hb)).1
  ·exact (Ztq (ihk x hx).1 (ihk x hx).2).2.1 (List.all_eq_true.1 hK x hx)
  ·have := List.all_eq_true.1 hX x hx
   rw [Bool.and_eq_true] at this
   exact (Ztq (iha x hx).1 (iha x hx).2.2).2.1 this.2
 ·intro c N hks hpr hag
  obtain ⟨c1, a1, a2, a3⟩ := Zib c (shB e)
  rw [Za1, Zza, Zo, a1, Zo]
  cases hb1 : c1.fbad with
  | true =>
   rw [ifT]
   refine ⟨c1, rfl, a3.co, a3.bs, ?_⟩
   have := a3.bad
   rw [hb1] at this
   rw [hb1]
   cases hc : c.fbad with
   | true => rfl
   | false =>
    rw [hc] at this
    cases hs : shB e with
    | true => rw [hs] at this; cases this
    | false => rw [Bool.and_false]; rfl
  | false =>
   rw [ifF, ← hb1]
   have hs : shB e = true := by
    have := a3.bad
    rw [hb1] at this
    cases hs : shB e with
    | true => rfl
    | false => rw [hs, Bool.not_false, Bool.or_true] at this; cases this
   obtain ⟨c2, b1, b2, b3⟩ := ZDs e e.fArgs c1 0
   rw [b1, hs]
   have h12 : CD c c2 (e.fArgs.all atB) := by have := a3.trans b3; rw [hs, Bool.true_and] at this; exact this
   have hl2 : c2.flocal = c.flocal := b2.trans a2
   have hks2 : KS c2 (2 * e.vol + N) := h12.ks hks
   have hpr2 : pr c2.flocal = mb local_ := h12.pr.trans hpr
   have hag2 : Zom c2 p := h12.agree hag
   rw [Zak]
   simp only [ieq]
   rw [Bool.and_true]
   by_cases o2 : e.fOp = 2
   ·have hz : Zdx e.fName = true ∧ e.fBinds = [] ∧ e.fKids = [] ∧ e.fAlts = [] := by
     unfold shB at hs
     rw [if_neg (by omega), if_pos o2, decide_eq_true_eq] at hs
     exact ⟨hs.1, List.length_eq_zero_iff.1 hs.2.2.2.1, List.length_eq_zero_iff.1 hs.2.2.2.2.1, List.length_eq_zero_iff.1 hs.2.2.2.2.2⟩
    obtain ⟨z1, z2, z3, z4⟩ := hz
    rw [decide_eq_true o2, ifT, Zb9, (Zd8 e.fName).1, Zo]
    obtain ⟨c3, n1, n2, n3⟩ := Zib c2 (Zdx e.fName)
    refine ⟨c3, ?_, ?_⟩
    ·show ((Zy c2 (Zdx e.fName) >>= _) >>= _) = _
     rw [n1]; rfl
    ·have hn0 : names = [] := by rw [← hnames, z2]; rfl
     rw [z2, z3, z4, hn0]
     rw [← hCv, if_neg (by omega)]
     have := h12.trans n3
     rw [z1] at this
     simpa [Zf3, Zen] using this
   ·rw [decide_eq_false o2, ifF]
    by_cases o3 : e.fOp = 3
    ·have hz : e.fBinds = [] ∧ e.fKids = [] ∧ e.fAlts = [] := by
      unfold shB at hs
      rw [if_neg (by omega), if_neg (by omega), if_pos (.inl o3), decide_eq_true_eq] at hs
      exact ⟨List.length_eq_zero_iff.1 hs.2.2.1, List.length_eq_zero_iff.1 hs.2.2.2.1, List.length_eq_zero_iff.1 hs.2.2.2.2⟩
     obtain ⟨z2, z3, z4⟩ := hz
     rw [decide_eq_true o3, ifT]
     obtain ⟨c3, n1, n2, n3⟩ := ZBc c2 p e.fName ((e.fArgs.length : Nat) : Int) hag2
     refine ⟨c3, ?_, ?_⟩
     ·show (ZbG c2 e.fName _ >>= _) = _
      rw [n1]; rfl
     ·have hn0 : names = [] := by rw [← hnames, z2]; rfl
      rw [z2, z3, z4, hn0]
      rw [← hCv, if_pos o3]
      have := h12.trans n3
      simpa [Zf3, Zen] using this
    ·have hC1 : C = true := by rw [← hCv, if_neg o3]
     rw [decide_eq_false o3, ifF]
     by_cases o5 : e.fOp = 5
     ·obtain ⟨k, z3, z4⟩ : ∃ k, e.fKids = [k] ∧ e.fAlts = [] := by
       unfold shB at hs
       rw [if_neg (by omega), if_neg o2, if_neg (by omega), if_pos o5, decide_eq_true_eq] at hs
       obtain ⟨k, hk⟩ := List.length_eq_one_iff.1 hs.2.2.2.1
       exact ⟨k, hk, List.length_eq_zero_iff.1 hs.2.2.2.2.1⟩
      rw [decide_eq_true o5, ifT, hnm.2, Zo, Zhw, Zo]
      obtain ⟨c3, n1, n2, n3⟩ := Zib c2 (Zen [] names)
      have h13 := h12.trans n3
      have hks3 := h13.ks hks
      have hpr3 := h13.pr.trans hpr
      have hag3 := h13.agree hag
      have hkv : k.vol ≤ kB e.fKids := by rw [z3, ZoO]; omega
      have hbs : ∃ c4, (if e.fRec = true then Zan names e c3 >>= fun r80 => Zb1 names e r80.fbad r80.fcons r80.flocal else Zbc e c3 >>= fun r81 => Zb1 names e r81.fbad r81.fcons r81.flocal) = Zb1 names e c4.fbad c4.fcons c4.flocal ∧ CD c3 c4 (e.fBinds.all (oB p · around)) := by
       cases hrec : e.fRec with
       | true =>
        rw [ifT, Zns, Zbc]
        have h0 : KS c3 (names.length + (Zk9 e.fBinds + N)) := hks3.le (by omega)
        obtain ⟨s1, s2⟩ := Zmg h0
        obtain ⟨c4, x1, x2⟩ := ZzR p e around e.fBinds ihb' (Zb.mk c3.fcons (upM c3.flocal names) c3.fbad) N 0 s1 (by
         show pr (upM c3.flocal names) = _
         rw [s2, hpr3, ← Zso, ← har, hrec, ifT]) hag3
        refine ⟨_, ?_, Zki h0 x2⟩
        show ((Za6 e 0 c3.fbad c3.fcons (upM c3.flocal names) e.fBinds >>= _) >>= _) = _
        have x1' : Za6 e 0 c3.fbad c3.fcons (upM c3.flocal names) e.fBinds = some c4 := x1
        rw [x1']; rfl
       | false =>
        rw [ifF, Zbc]
        obtain ⟨c4, x1, x2⟩ := ZzR p e around e.fBinds ihb' c3 N 0 (hks3.le (by omega)) (by rw [hpr3, ← har, hrec, ifF]) hag3
        exact ⟨c4, by rw [x1]; rfl, x2⟩
      obtain ⟨c4, m1, m2⟩ := hbs
      have h14 := h13.trans m2
      have h0 : KS c4 (names.length + (2 * k.vol + N)) := (h14.ks hks).le (by omega)
      obtain ⟨s1, s2⟩ := Zmg h0
      have hkk := ihk k (by rw [z3]; simp)
      obtain ⟨c5, x1, x2⟩ := (Ztq hkk.1 hkk.2).2.2 (Zb.mk c4.fcons (upM c4.flocal names) c4.fbad) N s1 (by
       show pr (upM c4.flocal names) = _
       rw [s2, h14.pr, hpr, Zso]) (h14.agree hag)
      refine ⟨Zb.mk c5.fcons (dnM c5.flocal names) c5.fbad, ?_, ?_⟩
      ·show (Zy c2 (Zen [] names) >>= _) = _
       rw [n1, Zo, m1, Zb1]
       show (Zap names c4 e >>= _) = _
       rw [Znv, Zb6, z3]
       show (((Za1 _ k >>= _) >>= _) >>= _) = _
       rw [x1]; rfl
      ·have := h14.trans (Zki h0 x2)
       rw [z3, z4, hC1]
       refine cast ?_ this
       congr 1
       cases e.fArgs.all atB <;> cases Zen [] names <;> cases e.fBinds.all (oB p · around) <;> cases hok : oE p k (local_ ++ names) <;> simp [Zf3, hok]
     ·rw [decide_eq_false o5, ifF]
      by_cases o6 : e.fOp = 6
      ·obtain ⟨k, z1, z2, z3⟩ : ∃ k, Zdx e.fName = true ∧ e.fBinds = [] ∧ e.fKids = [k] := by
        unfold shB at hs
        rw [if_neg (by omega), if_neg o2, if_neg (by omega), if_neg o5, if_pos o6, decide_eq_true_eq] at hs
        obtain ⟨k, hk⟩ := List.length_eq_one_iff.1 hs.2.2.2.2.1
        exact ⟨k, hs.1, List.length_eq_zero_iff.1 hs.2.2.2.1, hk⟩
       have hn0 : names = [] := by rw [← hnames, z2]; rfl
       have hkv : k.vol ≤ kB e.fKids := by rw [z3, ZoO]; omega
       rw [decide_eq_true o6, ifT, Zsl _ _ (by omega) (fun a ha => by have := (iha a ha).2.1; have h2 := Ziz a; have h3 := Zjo a.fVars; omega), Zo]
       obtain ⟨c3, n1, n2, n3⟩ := Zib c2 (Zf3 [] e.fAlts && e.fAlts.all (avB e.fName))
       have h13 := h12.trans n3
       have hkk := ihk k (by rw [z3]; simp)
       rw [hn0, List.append_nil] at hkk
       obtain ⟨c4, x1, x2⟩ := (Ztq hkk.1 hkk.2).2.2 c3 (1 + Zi5 e.fAlts + N) ((h13.ks hks).le (by omega)) (h13.pr.trans hpr) (h13.agree hag)
       have h14 := h13.trans x2
       have h0 : KS c4 ([e.fName].length + (Zi5 e.fAlts + N)) := (h14.ks hks).le (by simp; omega)
       obtain ⟨s1, s2⟩ := Zmg h0
       obtain ⟨c5, y1, y2⟩ := ZIb p e (local_ ++ [e.fName]) e.fAlts [] rfl (fun b hb => ⟨(iha b hb).1, (iha b hb).2.2⟩) (Zb.mk c4.fcons (upM c4.flocal [e.fName]) c4.fbad) N s1 (by
        show pr (upM c4.flocal [e.fName]) = _
        rw [s2, h14.pr, hpr, Zso]) (h14.agree hag)
       refine ⟨Zb.mk c5.fcons (dnM c5.flocal [e.fName]) c5.fbad, ?_, ?_⟩
       ·show (Zy c2 (Zf3 [] e.fAlts && e.fAlts.all (avB e.fName)) >>= fun r86 => ixI e.fKids 0 >>= fun x89 => Za1 r86 x89 >>= fun r90 => Zao [e.fName] e r90 >>= fun r92 => some r92) = _
        rw [n1, Zo, z3]
        show (Za1 c3 k >>= _) = _
        rw [x1, Zo, ZnG, Zb0]
        have y1' : Za7 e 0 c4.fbad c4.fcons (upM c4.flocal [e.fName]) = some c5 := y1
        show ((Za7 e 0 c4.fbad c4.fcons (upM c4.flocal [e.fName]) >>= _) >>= _) = _
        rw [y1']; rfl
       ·have := h14.trans (Zki h0 y2)
        rw [z2, z3, hn0, hC1, List.append_nil]
        refine cast ?_ this
        congr 1
        rw [List.all_nil, show Zen [] [] = true from rfl, Bool.and_true, Bool.and_true, Bool.true_and]
        show _ = ((e.fArgs.all atB && Zf3 [] e.fAlts) && ((oE p k local_ && true) && _))
        cases hA : Zf3 [] e.fAlts with
        | false => cases e.fArgs.all atB <;> rfl
        | true =>
         rw [ZEF z1 hA]
         cases e.fArgs.all atB <;> cases e.fAlts.all (avB e.fName) <;> cases oE p k local_ <;> rfl
      ·have hz : e.fBinds = [] ∧ e.fKids = [] ∧ e.fAlts = [] := by
        unfold shB at hs
        by_cases o1 : e.fOp = 1
        ·rw [if_pos o1, decide_eq_true_eq] at hs
         exact ⟨List.length_eq_zero_iff.1 hs.2.2.2.1, List.length_eq_zero_iff.1 hs.2.2.2.2.1, List.length_eq_zero_iff.1 hs.2.2.2.2.2⟩
        ·by_cases o4 : e.fOp = 4
         ·rw [if_neg o1, if_neg o2, if_pos (.inr o4), decide_eq_true_eq] at hs
          exact ⟨List.length_eq_zero_iff.1 hs.2.2.1, List.length_eq_zero_iff.1 hs.2.2.2.1, List.length_eq_zero_iff.1 hs.2.2.2.2⟩
         ·rw [if_neg o1, if_neg o2, if_neg (by omega), if_neg o5, if_neg o6] at hs
          cases hs
       obtain ⟨z2, z3, z4⟩ := hz
       have hn0 : names = [] := by rw [← hnames, z2]; rfl
       rw [decide_eq_false o6, ifF]
       refine ⟨_, rfl, ?_⟩
       rw [z2, z3, z4, hn0, hC1]
       simpa [Zf3, Zen] using h12

def exT : ByteArray := ByteArray.mk #[40, 32, 112, 114, 111, 103, 114, 97, 109, 32, 40, 32, 40, 32, 84, 114, 117, 101, 32, 49, 32, 48, 32, 41, 32, 41, 32, 40, 32, 116, 104, 117, 110, 107, 32, 77, 46, 120, 32, 40, 32, 41, 32, 40, 32, 99, 111, 110, 32, 84, 114, 117, 101, 32, 41, 32, 41, 32, 41]
def wO : ByteArray := ByteArray.mk #[40]
def wC : ByteArray := ByteArray.mk #[41]
def Zfc : ByteArray := ByteArray.mk #[84, 114, 117, 101]
def ZlV : ByteArray := ByteArray.mk #[112, 114, 111, 103, 114, 97, 109]
def Zjj : ByteArray := ByteArray.mk #[116, 104, 117, 110, 107]
def wMx : ByteArray := ByteArray.mk #[77, 46, 120]
def ZuC : ByteArray := ByteArray.mk #[99, 111, 110]
def w1 : ByteArray := ByteArray.mk #[49]
def w0 : ByteArray := ByteArray.mk #[48]
def exW : List ByteArray := [wO, ZlV, wO, wO, Zfc, w1, w0, wC, wC, wO, Zjj, wMx, wO, wC, wO, ZuC, Zfc, wC, wC, wC]
theorem Zz6 : strings_Split exT (ByteArray.mk #[32]) = some exW := by
 unfold strings_Split
 rw [ZdN _ (by decide)]
 refine congrArg some ?_
 decide +kernel
theorem ZHm : Zed w1 = some (1, false) := by
 unfold Zed
 rw [ZdN _ (by decide)]
 refine congrArg some ?_
 unfold ZxH
 rw [show Lib.atoiAll _ = .ok _ from rfl]
 rfl
theorem ZHN : Zed w0 = some (0, false) := by
 unfold Zed
 rw [ZdN _ (by decide)]
 refine congrArg some ?_
 unfold ZxH
 rw [show Lib.atoiAll _ = .ok _ from rfl]
 rfl
theorem ZGk : strconv_Itoa 1 = some w1 := by
 unfold strconv_Itoa
 rw [ZdN _ (by decide)]
 refine congrArg some ?_
 unfold ZAF Lib.itoa
 rw [if_neg (by decide), Lib.decDigits, dif_pos (by decide)]
 rfl
theorem ZFf : strconv_Itoa 0 = some w0 := by
 unfold strconv_Itoa
 rw [ZdN _ (by decide)]
 refine congrArg some ?_
 unfold ZAF Lib.itoa
 rw [if_neg (by decide), Lib.decDigits, dif_pos (by decide)]
 rfl
theorem ZCd : strings_Join exW (ByteArray.mk #[32]) = some exT := by
 unfold strings_Join
 rw [if_pos (by decide +kernel)]
 refine congrArg some ?_
 unfold ZAU
 decide +kernel
theorem ZeG (W : List ByteArray) (k : Nat) (w : ByteArray) (d : Int) (h : W[k]? = some w) (hk : k < 1000) : Zs (Zc.mk W (k : Int) d) = some (w, Zc.mk W ((k + 1 : Nat) : Int) d) := by
 have hl : k < W.length := by
  rcases Nat.lt_or_ge k W.length with h1 | h1
  ·exact h1
  ·rw [List.getElem?_eq_none h1] at h; cases h
 unfold Zs Zax
 show ((if decide ((k : Int) ≥ (W.length : Int)) = true then none else (ixI W (k : Int)) >>= fun x4 => some x4) >>= _) = _
 rw [decide_eq_false (by omega), ifF]
 have : ixI W (k : Int) = some w := by unfold ixI; rw [if_pos (by omega), Int.toNat_natCast, h]
 rw [this, Zo, Zo, w64 (by show _ ≤ (k : Int) + 1; omega) (by show (k : Int) + 1 ≤ _; omega)]
 rfl
theorem ZoA (W : List ByteArray) (k : Nat) (w : ByteArray) (d : Int) (h : W[k]? = some w) : Zax (Zc.mk W (k : Int) d) = some w := by
 have hl : k < W.length := by
  rcases Nat.lt_or_ge k W.length with h1 | h1
  ·exact h1
  ·rw [List.getElem?_eq_none h1] at h; cases h
 unfold Zax
 show (if decide ((k : Int) ≥ (W.length : Int)) = true then none else (ixI W (k : Int)) >>= fun x4 => some x4) = _
 rw [decide_eq_false (by omega), ifF]
 have : ixI W (k : Int) = some w := by unfold ixI; rw [if_pos (by omega), Int.toNat_natCast, h]
 rw [this]; rfl
theorem wd0 (d : Int) : Zs (Zc.mk exW 0 d) = some (wO, Zc.mk exW 1 d) := ZeG exW 0 wO d rfl (by decide)
theorem wd1 (d : Int) : Zs (Zc.mk exW 1 d) = some (ZlV, Zc.mk exW 2 d) := ZeG exW 1 ZlV d rfl (by decide)
theorem wd2 (d : Int) : Zs (Zc.mk exW 2 d) = some (wO, Zc.mk exW 3 d) := ZeG exW 2 wO d rfl (by decide)
theorem wd3 (d : Int) : Zs (Zc.mk exW 3 d) = some (wO, Zc.mk exW 4 d) := ZeG exW 3 wO d rfl (by decide)
theorem pk3 (d : Int) : Zax (Zc.mk exW 3 d) = some wO := ZoA exW 3 wO d rfl
theorem wd4 (d : Int) : Zs (Zc.mk exW 4 d) = some (Zfc, Zc.mk exW 5 d) := ZeG exW 4 Zfc d rfl (by decide)
theorem wd5 (d : Int) : Zs (Zc.mk exW 5 d) = some (w1, Zc.mk exW 6 d) := ZeG exW 5 w1 d rfl (by decide)
theorem wd6 (d : Int) : Zs (Zc.mk exW 6 d) = some (w0, Zc.mk exW 7 d) := ZeG exW 6 w0 d rfl (by decide)
theorem wd7 (d : Int) : Zs (Zc.mk exW 7 d) = some (wC, Zc.mk exW 8 d) := ZeG exW 7 wC d rfl (by decide)
theorem wd8 (d : Int) : Zs (Zc.mk exW 8 d) = some (wC, Zc.mk exW 9 d) := ZeG exW 8 wC d rfl (by decide)
theorem pk8 (d : Int) : Zax (Zc.mk exW 8 d) = some wC := ZoA exW 8 wC d rfl
theorem wd9 (d : Int) : Zs (Zc.mk exW 9 d) = some (wO, Zc.mk exW 10 d) := ZeG exW 9 wO d rfl (by decide)
theorem pk9 (d : Int) : Zax (Zc.mk exW 9 d) = some wO := ZoA exW 9 wO d rfl
theorem ZJQ (d : Int) : Zs (Zc.mk exW 10 d) = some (Zjj, Zc.mk exW 11 d) := ZeG exW 10 Zjj d rfl (by decide)
theorem ZJE (d : Int) : Zs (Zc.mk exW 11 d) = some (wMx, Zc.mk exW 12 d) := ZeG exW 11 wMx d rfl (by decide)
theorem ZJC (d : Int) : Zs (Zc.mk exW 12 d) = some (wO, Zc.mk exW 13 d) := ZeG exW 12 wO d rfl (by decide)
theorem ZJD (d : Int) : Zs (Zc.mk exW 13 d) = some (wC, Zc.mk exW 14 d) := ZeG exW 13 wC d rfl (by decide)
theorem ZI7 (d : Int) : Zax (Zc.mk exW 13 d) = some wC := ZoA exW 13 wC d rfl
theorem ZJ0 (d : Int) : Zs (Zc.mk exW 14 d) = some (wO, Zc.mk exW 15 d) := ZeG exW 14 wO d rfl (by decide)
theorem ZJI (d : Int) : Zs (Zc.mk exW 15 d) = some (ZuC, Zc.mk exW 16 d) := ZeG exW 15 ZuC d rfl (by decide)
theorem ZKb (d : Int) : Zs (Zc.mk exW 16 d) = some (Zfc, Zc.mk exW 17 d) := ZeG exW 16 Zfc d rfl (by decide)
theorem ZIz (d : Int) : Zs (Zc.mk exW 17 d) = some (wC, Zc.mk exW 18 d) := ZeG exW 17 wC d rfl (by decide)
theorem ZKa (d : Int) : Zax (Zc.mk exW 17 d) = some wC := ZoA exW 17 wC d rfl
theorem ZJr (d : Int) : Zs (Zc.mk exW 18 d) = some (wC, Zc.mk exW 19 d) := ZeG exW 18 wC d rfl (by decide)
theorem ZIA (d : Int) : Zs (Zc.mk exW 19 d) = some (wC, Zc.mk exW 20 d) := ZeG exW 19 wC d rfl (by decide)
theorem ZJg (d : Int) : Zax (Zc.mk exW 19 d) = some wC := ZoA exW 19 wC d rfl
def exE : Zj := Zj.mk 3 Zfc [] false [] [] []
def exB : Za := Za.mk wMx 2 [] [] exE
def exP : Zi := Zi.mk [Zk.mk Zfc 1 0] [exB]
theorem ZCC : IntKind.i64.wrap (0 + 1) = 1 := by decide
theorem ZG1 : IntKind.i64.wrap (1 - 1) = 0 := by decide
theorem Zzx (d : Int) : Zcu (Zc.mk exW 17 d) = some ([], Zc.mk exW 17 d) := by
 rw [Zcu, ZbZ, ZKa, Zo, Zf1, show (decide (wC = ByteArray.mk #[40])) = false from by decide, ifF]
theorem Zxy (W : List ByteArray) (k k' : Int) (w v : ByteArray) (d : Int) (h : Zs (Zc.mk W k d) = some (w, Zc.mk W k' d)) (e : w = v) : ZT (Zc.mk W k d) [v] = some (Zc.mk W k' d) := by
 rw [ZT, ZaF]
 show (Zs (Zc.mk W k d) >>= _) = _
 rw [h, Zo]
 show (if (!(w.toList == v.toList)) = true then none else ZaF [v] 1 (Zc.mk W k' d) []) = _
 rw [Zf1, decide_eq_true e, Bool.not_true, ifF, ZaF]
theorem Zx8 (W : List ByteArray) (k k' : Int) (d : Int) (h : Zs (Zc.mk W k d) = some (wO, Zc.mk W k' d)) : ZT (Zc.mk W k d) [ByteArray.mk #[40]] = some (Zc.mk W k' d) := Zxy W k k' wO _ d h rfl
theorem Zud (W : List ByteArray) (k k' : Int) (d : Int) (h : Zs (Zc.mk W k d) = some (wC, Zc.mk W k' d)) : ZT (Zc.mk W k d) [ByteArray.mk #[41]] = some (Zc.mk W k' d) := Zxy W k k' wC _ d h rfl
theorem ZCa : Zdc (Zc.mk exW 14 0) = some (exE, Zc.mk exW 18 0) := by
 rw [Zdc]
 show (if decide (IntKind.i64.wrap (0 + 1) > 4000) = true then none else ZT (Zc.mk exW 14 (IntKind.i64.wrap (0 + 1))) [ByteArray.mk #[40]] >>= _) = _
 rw [ZCC, show decide ((1 : Int) > 4000) = false from rfl, ifF, Zx8 exW 14 15 1 (ZJ0 1), Zo, ZJI, Zo]
 simp only [Zf1]
 rw [show decide (ZuC = ByteArray.mk #[97, 116, 111, 109]) = false from by decide, ifF, show decide (ZuC = ByteArray.mk #[97, 112, 112]) = false from by decide, ifF, show decide (ZuC = ByteArray.mk #[99, 111, 110]) = true from by decide, ifT, ZKb, Zo]
 show (Zcu (Zc.mk exW 17 1) >>= _) = _
 rw [Zzx, Zo]
 show ZbA exE (Zc.mk exW 17 1) = _
 rw [ZbA, Zud exW 17 18 1 (ZIz 1), Zo]
 show some (exE, Zc.mk exW 18 (IntKind.i64.wrap (1 - 1))) = _
 rw [ZG1]
theorem ZAh : ZcS (Zc.mk exW 12 0) = some ([], Zc.mk exW 14 0) := by
 rw [ZcS, Zx8 exW 12 13 0 (ZJC 0), Zo, Zb3, ZI7, Zo]
 simp only [Zf1]
 rw [show decide (wC = ByteArray.mk #[41]) = true from by decide, Bool.not_true, ifF, Zud exW 13 14 0 (ZJD 0), Zo]
theorem ZBY : ZcP (Zc.mk exW 9 0) = some (exB, Zc.mk exW 19 0) := by
 rw [ZcP, Zx8 exW 9 10 0 (wd9 0), Zo, ZJQ, Zo]
 simp only [Zf1]
 rw [show decide (Zjj = ByteArray.mk #[102, 117, 110]) = false from by decide, ifF, show decide (Zjj = ByteArray.mk #[116, 104, 117, 110, 107]) = true from by decide, ifT, Zc2, ZJE, Zo]
 show (ZcS (Zc.mk exW 12 0) >>= _) = _
 rw [ZAh, Zo, show ((((2 : Nat) : Int) == 1) = false) from rfl, ifF]
 show Zc1 (wMx, Zc.mk exW 12 0) 2 ([], Zc.mk exW 14 0) [] (Zc.mk exW 14 0) = _
 rw [Zc1, ZCa, Zo]
 show (ZT (Zc.mk exW 18 0) _ >>= _) = _
 rw [Zud exW 18 19 0 (ZJr 0), Zo]; rfl
theorem ZJc : ZaZ (Zc.mk exW 5 0) = some (1, Zc.mk exW 6 0) := by
 rw [ZaZ, wd5, Zo]
 show (Zed w1 >>= _) = _
 rw [ZHm, Zo]; rfl
theorem ZJb : ZaZ (Zc.mk exW 6 0) = some (0, Zc.mk exW 7 0) := by
 rw [ZaZ, wd6, Zo]
 show (Zed w0 >>= _) = _
 rw [ZHN, Zo]; rfl
theorem ZBy : Zdt (Zc.mk exW 0 0) = some (exP, Zc.mk exW 20 0) := by
 have hw : ZT (Zc.mk exW 0 0) [ByteArray.mk #[40], ByteArray.mk #[112, 114, 111, 103, 114, 97, 109], ByteArray.mk #[40]] = some (Zc.mk exW 3 0) := by
  rw [ZT, ZaF]
  show (Zs (Zc.mk exW 0 0) >>= _) = _
  rw [wd0, Zo, ZaF]
  show (if (!(wO.toList == (ByteArray.mk #[40]).toList)) = true then none else (Zs (Zc.mk exW 1 0) >>= _)) = _
  rw [Zf1, decide_eq_true (by rfl), Bool.not_true, ifF, wd1, Zo, ZaF]
  show (if (!(ZlV.toList == (ByteArray.mk #[112, 114, 111, 103, 114, 97, 109]).toList)) = true then none else (Zs (Zc.mk exW 2 0) >>= _)) = _
  rw [Zf1, decide_eq_true (by rfl), Bool.not_true, ifF, wd2, Zo, ZaF]
  show (if (!(wO.toList == (ByteArray.mk #[40]).toList)) = true then none else some (Zc.mk exW 3 0)) = _
  rw [Zf1, decide_eq_true (by rfl), Bool.not_true, ifF]
 rw [Zdt, hw, Zo, Zbj, pk3, Zo, Zf1, decide_eq_true (by rfl), ifT, Zx8 exW 3 4 0 (wd3 0), Zo, wd4, Zo]
 show (ZaZ (Zc.mk exW 5 0) >>= _) = _
 rw [ZJc, Zo]
 show (ZaZ (Zc.mk exW 6 0) >>= _) = _
 rw [ZJb, Zo]
 show (ZT (Zc.mk exW 7 0) _ >>= _) = _
 rw [Zud exW 7 8 0 (wd7 0), Zo, ZdN _ (by decide), Zbj, pk8, Zo, Zf1, show decide (wC = ByteArray.mk #[40]) = false from by decide, ifF, Zud exW 8 9 0 (wd8 0), Zo]
 rw [Zbk, pk9, Zo, Zf1, decide_eq_true (by rfl), ifT, ZBY, Zo, ZdN _ (by simp), Zbk]
 show (Zax (Zc.mk exW 19 0) >>= _) = _
 rw [ZJg, Zo, Zf1, show decide (wC = ByteArray.mk #[40]) = false from by decide, ifF]
 show (ZT (Zc.mk exW 19 0) _ >>= _) = _
 rw [Zud exW 19 20 0 (ZIA 0), Zo]; rfl
theorem ZBF : ZjK exW = some (exP, true) := by
 rw [ZjK, ZBy, Zo]; rfl

theorem Zxs : Zdx Zfc = true := by decide +kernel
theorem ZCk : Zdx wMx = true := by decide +kernel
theorem ZzA : Zay exE = some 1 := by
 rw [Zay]
 show Zc8 0 exE 0 [] = _
 rw [Zc8]
 show ZcU 0 exE 0 [] = _
 rw [ZcU]
 show ZcR 0 exE 0 [] = _
 rw [ZcR]
 show some (IntKind.i64.wrap (0 + 1)) = _
 rw [ZCC]
theorem ZzX : ZcY exE = some 1 := by
 rw [ZcY]
 show ZdK (IntKind.i64.wrap (1 + 0)) exE 0 [] = _
 rw [ZdK]
 show ZdO (IntKind.i64.wrap (1 + 0)) exE 0 [] = _
 rw [ZdO]
 show ZdP (IntKind.i64.wrap (1 + 0)) exE 0 [] = _
 rw [ZdP, show IntKind.i64.wrap (1 + 0) = 1 from by decide]
theorem ZzH : Zaw exE = some [] := by
 rw [Zaw]
 show (if ((3 : Int) == 2) = true then _ else ZbC [] exE) = _
 rw [show ((3 : Int) == 2) = false from rfl, ifF, ZbC]
 show Zaq [] 0 exE [] = _
 rw [Zaq]
 show (Zbp [] >>= _) = _
 rw [(Zif [] (by simp)).1, Zo]
 show (if false = true then _ else ZbD [] [] [] exE) = _
 rw [ifF, ZbD]
 show Zbq [] [] [] 0 exE [] = _
 rw [Zbq]
 show ZaT [] [] 0 exE [] = _
 rw [ZaT]
 show Za9 [] 0 exE = _
 rw [Za9]
 rfl
theorem ZDI : ZeW exB = some [] := by
 obtain ⟨L, h1, h2, h3, h4, h5⟩ := Zre exB (by show Zcc _ ≤ _; decide +kernel)
 have h1 : Zaw exE = some L := h1
 rw [ZzH] at h1
 injection h1 with h1
 subst h1
 exact h5
theorem Zyy : Zgr exE = some true := by
 rw [Zgr]
 show (Zei Zfc >>= _) = _
 rw [(Zd8 Zfc).1, Zxs, Zo]
 simp only [Zf1]
 rw [show decide (exE.fName = ByteArray.mk #[]) = false from by decide]
 rfl
theorem ZBO (c : Zb) (h : Zeq Zfc c.fcons = some 0) : ZbG c Zfc 0 = some c := by
 rw [ZbG]
 have : ZbW c.fcons 0 Zfc = some (0, true) := by unfold ZbW; rw [h]
 rw [this, Zo]
 show (Zy c (!true || ((0 : Int) == 0)) >>= _) = _
 rw [Zic, Zo]
 show some (Zb.mk c.fcons c.flocal (c.fbad || false)) = _
 rw [Bool.or_false]
def exC : CM := [(Zfc, 0)]
theorem ZzP : Za1 (Zb.mk exC [] false) exE = some (Zb.mk exC [] false) := by
 rw [Za1, Zyy, Zo, Zic, Zo]
 show (if false = true then _ else Zak exE 0 false exC [] []) = _
 rw [ifF, Zak]
 show (ZbG (Zb.mk exC [] false) Zfc 0 >>= _) = _
 rw [ZBO _ (by unfold exC Zeq; rw [Zv8, decide_eq_true rfl, ifT]), Zo]
theorem ZyJ : ZaP (Zb.mk exC [] false) exB true = some (Zb.mk exC [] false) := by
 rw [ZaP]
 show (Zy (Zb.mk exC [] false) (((([] : List ByteArray).length : Nat) : Int) == 0) >>= _) = _
 rw [Zic, Zo]
 show Zbr true exB false exC [] = _
 rw [Zbr]
 show (Zei wMx >>= _) = _
 rw [(Zd8 wMx).1, ZCk, Zo, ifT]
 show ((ZdB [] >>= _) >>= _) = _
 rw [Zhw, Zo, Zo, Zic, Zo, ZDI, Zo, ZbK]
 show (ZaB [] [] >>= _) = _
 rw [show ZaB [] [] = some true from by rw [ZaB, Zam]; rfl, Zo, Zic, Zo]
 show (Zae [] (Zb.mk exC [] false) exB >>= _) = _
 rw [Zi2, ZbH]
 show (((Za1 (Zb.mk exC [] false) exE >>= _) >>= _) >>= _) = _
 rw [ZzP]; rfl
theorem Zwb : ZeF exP = some 0 := by
 rw [ZeF]
 show Zcw 0 exP 0 [exB] = _
 rw [Zcw]
 show (Zay exE >>= _) = _
 rw [ZzA, Zo, show decide ((1 : Int) > 4000) = false from rfl, ifF]
 show (ZcY exE >>= _) = _
 rw [ZzX, Zo, show IntKind.i64.wrap (0 + 1) = 1 from by decide, Zcw]
 show ZbP exP 0 [] [] false [Zk.mk Zfc 1 0] = _
 rw [ZbP]
 show (Zei Zfc >>= _) = _
 rw [(Zd8 Zfc).1, Zxs, Zo, Zic, Zo]
 show ZbP exP 1 exC [] false [] = _
 rw [ZbP]
 show (Zfw [exB] >>= _) = _
 rw [(Zif [exB] (by simp)).2, Zo, Zhw, Zo, Zic, Zo]
 rw [show Zen [] ([exB].map (·.fName)) = true from by show ((Zdx wMx && !decide (wMx ∈ ([] : List ByteArray))) && true) = true; rw [ZCk]; rfl]
 show Zb7 exP 0 exC [] false [exB] = _
 rw [Zb7]
 show (Zy (Zb.mk exC [] false) (((([] : List ByteArray).length : Nat) : Int) == 0) >>= _) = _
 rw [Zic, Zo]
 show (ZaP (Zb.mk exC [] false) exB true >>= _) = _
 rw [ZyJ, Zo]
 show Zb7 exP 1 exC [] false [] = _
 rw [Zb7]
 rfl
theorem ZBE (l n : List ByteArray) (h : l.length + n.length ≤ 1000) : Zg9 l n = some (((l ++ [wO]) ++ n) ++ [wC]) := by
 rw [Zg9, ZdN _ (by simp; omega), ZdN _ (by simp; omega), ZdN _ (by simp; omega)]
 rfl
theorem Zwr : ZfU exP = some exT := by
 rw [ZfU, Zwb, Zo]
 show ZdE [wO, ZlV, wO] exP 0 [Zk.mk Zfc 1 0] = _
 rw [ZdE]
 show (strconv_Itoa 1 >>= fun r59 => strconv_Itoa 0 >>= _) = _
 rw [ZGk, Zo, ZFf, Zo, ZdN _ (by simp), ZdE]
 rw [ZdN _ (by simp)]
 show ZdH [wO, ZlV, wO, wO, Zfc, w1, w0, wC, wC] exP 0 [exB] = _
 rw [ZdH]
 have hput : Zia [wO, ZlV, wO, wO, Zfc, w1, w0, wC, wC, wO, Zjj, wMx, wO, wC] exE = some [wO, ZlV, wO, wO, Zfc, w1, w0, wC, wC, wO, Zjj, wMx, wO, wC, wO, ZuC, Zfc, wC] := by
  rw [Zia, ZdN _ (by simp)]
  show (ZaK _ >>= fun _ => Zel _ exE) = _
  rw [ZdN _ (by simp), Zel]
  show ZeK [wO, ZlV, wO, wO, Zfc, w1, w0, wC, wC, wO, Zjj, wMx, wO, wC, wO, ZuC, Zfc] exE 0 [] = _
  rw [ZeK, ZdN _ (by simp)]
  rfl
 have hb : Zd4 [wO, ZlV, wO, wO, Zfc, w1, w0, wC, wC] exB = some [wO, ZlV, wO, wO, Zfc, w1, w0, wC, wC, wO, Zjj, wMx, wO, wC, wO, ZuC, Zfc, wC, wC] := by
  rw [Zd4]
  show Zeb _ Zjj exB = _
  rw [Zeb]
  show Zej _ Zjj exB = _
  rw [Zej, ZdN _ (by simp)]
  show (Zg9 [wO, ZlV, wO, wO, Zfc, w1, w0, wC, wC, wO, Zjj, wMx] [] >>= _) = _
  rw [ZBE _ _ (by simp), Zo]
  show Zee [wO, ZlV, wO, wO, Zfc, w1, w0, wC, wC, wO, Zjj, wMx, wO, wC] exB = _
  rw [Zee]
  show (Zia _ exE >>= _) = _
  rw [hput, Zo, ZdN _ (by simp)]
  rfl
 show (Zd4 _ exB >>= _) = _
 rw [hb, Zo, ZdH, ZdN _ (by simp)]
 show (strings_Join exW _ >>= _) = _
 rw [ZCd, Zo]
def exF : Zj := Zj.mk 2 (ByteArray.mk #[102]) [ZJ.mk 1 (ByteArray.mk #[120]) 0, ZJ.mk 1 (ByteArray.mk #[102]) 0] false [] [] []
theorem Zzd : ZfE exF = some [ByteArray.mk #[102], ByteArray.mk #[120]] := by
 obtain ⟨L, h1, h2, h3, h4⟩ := ZoQ exF (by show Zcc _ ≤ _; decide +kernel)
 rw [h2]
 have : Zaw exF = some [ByteArray.mk #[102], ByteArray.mk #[120]] := by
  rw [Zaw]
  show (ZaK _ >>= fun _ => ZbC [ByteArray.mk #[102]] exF) = _
  rw [ZdN _ (by simp), ZbC]
  show Zaq _ 0 exF [ZJ.mk 1 (ByteArray.mk #[120]) 0, ZJ.mk 1 (ByteArray.mk #[102]) 0] = _
  rw [Zaq]
  show (Zck [ByteArray.mk #[102]] [ByteArray.mk #[120]] [] >>= _) = _
  rw [Zoz _ _ _ (by simp), Zo, Zaq]
  show (Zck (ad (mb []) [ByteArray.mk #[102]] [ByteArray.mk #[120]]) [ByteArray.mk #[102]] [] >>= _) = _
  have e1 : ad (mb []) [ByteArray.mk #[102]] [ByteArray.mk #[120]] = [ByteArray.mk #[102], ByteArray.mk #[120]] := by decide +kernel
  rw [e1, Zoz _ _ _ (by simp), Zo]
  have e2 : ad (mb []) [ByteArray.mk #[102], ByteArray.mk #[120]] [ByteArray.mk #[102]] = [ByteArray.mk #[102], ByteArray.mk #[120]] := by decide +kernel
  rw [e2, Zaq]
  show (Zbp [] >>= _) = _
  rw [(Zif [] (by simp)).1, Zo]
  generalize [ByteArray.mk #[102], ByteArray.mk #[120]] = X
  show (if false = true then _ else ZbD X [] [] exF) = _
  rw [ifF, ZbD]
  show Zbq X [] [] 0 exF [] = _
  rw [Zbq]
  show ZaT X [] 0 exF [] = _
  rw [ZaT]
  show Za9 X 0 exF = _
  rw [Za9]
  rfl
 rw [this] at h1
 injection h1 with h1
 rw [h1]
theorem Zzl : ZcY exF = some 3 := by
 rw [ZcY]
 show ZdK (IntKind.i64.wrap (1 + 2)) exF 0 [] = _
 rw [ZdK]
 show ZdO (IntKind.i64.wrap (1 + 2)) exF 0 [] = _
 rw [ZdO]
 show ZdP (IntKind.i64.wrap (1 + 2)) exF 0 [] = _
 rw [ZdP, show IntKind.i64.wrap (1 + 2) = 3 from by decide]
theorem ZzZ : Zhx exT = some (exP, ZhD.mk 0 (ByteArray.mk #[]) 0 0) := by
 rw [Zhx, Zz6, Zo, ZBF, Zo]
 show ((if (!true) = true then some true else ZeF exP >>= _) >>= _) = _
 rw [Zwb, Bool.not_true, ifF, Zo, Zo]
 show ((if false = true then some true else ZfU exP >>= _) >>= _) = _
 rw [ifF, Zwr, Zo, Zo, Zf1, decide_eq_true rfl]
 rfl
theorem ZEh : Zcl = some true := by
 rw [Zcl]
 show (Zhx exT >>= fun r1 => ZfE exF >>= _) = _
 rw [ZzZ, Zo, Zzd, Zo]
 simp only [Zf1, decide_true]
 show ((if true = true then ZfU exP >>= _ else some false) >>= _) = _
 rw [ifT, Zwr, Zo, Zo]
 rw [show decide (exT = ByteArray.mk #[40, 32, 112, 114, 111, 103, 114, 97, 109, 32, 40, 32, 40, 32, 84, 114, 117, 101, 32, 49, 32, 48, 32, 41, 32, 41, 32, 40, 32, 116, 104, 117, 110, 107, 32, 77, 46, 120, 32, 40, 32, 41, 32, 40, 32, 99, 111, 110, 32, 84, 114, 117, 101, 32, 41, 32, 41, 32, 41]) = true from decide_eq_true rfl]
 show ((if true = true then some (decide (ByteArray.mk #[102] = ByteArray.mk #[102])) else some false) >>= _) = _
 rw [ifT, Zo, decide_eq_true rfl, ifT]
 show (some (decide (ByteArray.mk #[120] = ByteArray.mk #[120])) >>= _) = _
 rw [Zo, decide_eq_true rfl, ifT]
 show ((ZcY exF >>= _) >>= _) = _
 rw [Zzl]
 rfl

noncomputable def dpt (e : Zj) : Nat := ((Zw e).getD 0).toNat
noncomputable def mxB : List Za → Nat
 | [] => 0
 | x :: s => max (dpt x.fBody) (mxB s)
noncomputable def mxA : List Zf → Nat
 | [] => 0
 | x :: s => max (dpt x.fBody) (mxA s)
noncomputable def mxK : List Zj → Nat
 | [] => 0
 | x :: s => max (dpt x) (mxK s)
theorem Zub (e : Zj) (hv : e.vol ≤ 1000000000) : dpt e ≤ e.vol ∧ Zw e = some ((dpt e : Nat) : Int) ∧ Zay e = some ((dpt e : Nat) : Int) := by
 revert hv
 refine ZA4 (M := fun e => e.vol ≤ 1000000000 → dpt e ≤ e.vol ∧ Zw e = some ((dpt e : Nat) : Int) ∧ Zay e = some ((dpt e : Nat) : Int)) (fun e ih hv => ?_) e
 have hve := Zs4 e
 have mx : ∀ a b : Nat, (if ((a : Nat) : Int) > ((b : Nat) : Int) then ((a : Nat) : Int) else ((b : Nat) : Int)) = ((max b a : Nat) : Int) := by
  intro a b
  by_cases h : ((a : Nat) : Int) > ((b : Nat) : Int)
  ·rw [if_pos h]; omega
  ·rw [if_neg h]; omega
 have ihb : ∀ x ∈ e.fBinds, dpt x.fBody < e.vol ∧ Zw x.fBody = some ((dpt x.fBody : Nat) : Int) ∧ Zay x.fBody = some ((dpt x.fBody : Nat) : Int) := fun x hx => by
  have h1 : x.vol ≤ bB e.fBinds := Zeh (f := Za.cells) hx
  have h2 := ZfS x
  obtain ⟨a, b, c⟩ := ih x.fBody (by omega) (by omega)
  exact ⟨by omega, b, c⟩
 have iha : ∀ x ∈ e.fAlts, dpt x.fBody < e.vol ∧ Zw x.fBody = some ((dpt x.fBody : Nat) : Int) ∧ Zay x.fBody = some ((dpt x.fBody : Nat) : Int) := fun x hx => by
  have h1 : x.vol ≤ lB e.fAlts := Zeh (f := Zf.cells) hx
  have h2 := Ziz x
  obtain ⟨a, b, c⟩ := ih x.fBody (by omega) (by omega)
  exact ⟨by omega, b, c⟩
 have ihk : ∀ x ∈ e.fKids, dpt x < e.vol ∧ Zw x = some ((dpt x : Nat) : Int) ∧ Zay x = some ((dpt x : Nat) : Int) := fun x hx => by
  have h1 : x.vol ≤ kB e.fKids := Zeh (f := Zj.cells) hx
  obtain ⟨a, b, c⟩ := ih x (by omega) (by omega)
  exact ⟨by omega, b, c⟩
 have r3 : ∀ (s : List Zj) (n i : Nat), (∀ x ∈ s, dpt x < e.vol ∧ Zw x = some ((dpt x : Nat) : Int) ∧ Zay x = some ((dpt x : Nat) : Int)) → n < e.vol → max n (mxK s) < e.vol ∧ Zbv n i e s = some ((max n (mxK s) + 1 : Nat) : Int) := by
  intro s
  induction s with
  | nil => intro n i _ hn; exact ⟨by rw [mxK]; omega, by rw [Zbv]; show some _ = _; rw [w64 (by omega) (by omega), mxK]; congr 1; omega⟩
  | cons x s ih2 =>
   intro n i hs hn
   obtain ⟨h1, h2, _⟩ := hs x (by simp)
   obtain ⟨k1, k2⟩ := ih2 (max n (dpt x)) (i + 1) (fun y hy => hs y (by simp [hy])) (by omega)
   refine ⟨by rw [mxK]; omega, ?_⟩
   rw [Zbv]; show (Zw x >>= _) = _; rw [h2, Zo, mx, k2, mxK]; congr 2; omega
 have r2 : ∀ (s : List Zf) (n i : Nat), (∀ x ∈ s, dpt x.fBody < e.vol ∧ Zw x.fBody = some ((dpt x.fBody : Nat) : Int) ∧ Zay x.fBody = some ((dpt x.fBody : Nat) : Int)) → n < e.vol → max n (mxA s) < e.vol ∧ Zbu n i e s = Zbv ((max n (mxA s) : Nat) : Int) 0 e e.fKids := by
  intro s
  induction s with
  | nil => intro n i _ hn; exact ⟨by rw [mxA]; omega, by rw [Zbu, mxA, Nat.max_zero]⟩
  | cons x s ih2 =>
   intro n i hs hn
   obtain ⟨h1, h2, _⟩ := hs x (by simp)
   obtain ⟨k1, k2⟩ := ih2 (max n (dpt x.fBody)) (i + 1) (fun y hy => hs y (by simp [hy])) (by omega)
   refine ⟨by rw [mxA]; omega, ?_⟩
   rw [Zbu]; show (Zw x.fBody >>= _) = _; rw [h2, Zo, mx, k2, mxA, Nat.max_assoc]
 have r1 : ∀ (s : List Za) (n i : Nat), (∀ x ∈ s, dpt x.fBody < e.vol ∧ Zw x.fBody = some ((dpt x.fBody : Nat) : Int) ∧ Zay x.fBody = some ((dpt x.fBody : Nat) : Int)) → n < e.vol → max n (mxB s) < e.vol ∧ ZbQ n i e s = Zbu ((max n (mxB s) : Nat) : Int) 0 e e.fAlts := by
  intro s
  induction s with
  | nil => intro n i _ hn; exact ⟨by rw [mxB]; omega, by rw [ZbQ, mxB, Nat.max_zero]⟩
  | cons x s ih2 =>
   intro n i hs hn
   obtain ⟨h1, h2, _⟩ := hs x (by simp)
   obtain ⟨k1, k2⟩ := ih2 (max n (dpt x.fBody)) (i + 1) (fun y hy => hs y (by simp [hy])) (by omega)
   refine ⟨by rw [mxB]; omega, ?_⟩
   rw [ZbQ]; show (Zw x.fBody >>= _) = _; rw [h2, Zo, mx, k2, mxB, Nat.max_assoc]
 have p3 : ∀ (s : List Zf) (n i : Nat), (∀ x ∈ s, dpt x.fBody < e.vol ∧ Zw x.fBody = some ((dpt x.fBody : Nat) : Int) ∧ Zay x.fBody = some ((dpt x.fBody : Nat) : Int)) → n < e.vol → ZcR n e i s = some ((max n (mxA s) + 1 : Nat) : Int) := by
  intro s
  induction s with
  | nil => intro n i _ hn; rw [ZcR]; show some _ = _; rw [w64 (by omega) (by omega), mxA]; congr 1; omega
  | cons x s ih2 =>
   intro n i hs hn
   obtain ⟨h1, _, h2⟩ := hs x (by simp)
   have k2 := ih2 (max n (dpt x.fBody)) (i + 1) (fun y hy => hs y (by simp [hy])) (by omega)
   rw [ZcR]; show (Zay x.fBody >>= _) = _; rw [h2, Zo, mx, k2, mxA]; congr 2; omega
 have p2 : ∀ (s : List Za) (n i : Nat), (∀ x ∈ s, dpt x.fBody < e.vol ∧ Zw x.fBody = some ((dpt x.fBody : Nat) : Int) ∧ Zay x.fBody = some ((dpt x.fBody : Nat) : Int)) → n < e.vol → max n (mxB s) < e.vol ∧ ZcU n e i s = ZcR ((max n (mxB s) : Nat) : Int) e 0 e.fAlts := by
  intro s
  induction s with
  | nil => intro n i _ hn; exact ⟨by rw [mxB]; omega, by rw [ZcU, mxB, Nat.max_zero]⟩
  | cons x s ih2 =>
   intro n i hs hn
   obtain ⟨h1, _, h2⟩ := hs x (by simp)
   obtain ⟨k1, k2⟩ := ih2 (max n (dpt x.fBody)) (i + 1) (fun y hy => hs y (by simp [hy])) (by omega)
   refine ⟨by rw [mxB]; omega, ?_⟩
   rw [ZcU]; show (Zay x.fBody >>= _) = _; rw [h2, Zo, mx, k2, mxB, Nat.max_assoc]
 have p1 : ∀ (s : List Zj) (n i : Nat), (∀ x ∈ s, dpt x < e.vol ∧ Zw x = some ((dpt x : Nat) : Int) ∧ Zay x = some ((dpt x : Nat) : Int)) → n < e.vol → max n (mxK s) < e.vol ∧ Zc8 n e i s = ZcU ((max n (mxK s) : Nat) : Int) e 0 e.fBinds := by
  intro s
  induction s with
  | nil => intro n i _ hn; exact ⟨by rw [mxK]; omega, by rw [Zc8, mxK, Nat.max_zero]⟩
  | cons x s ih2 =>
   intro n i hs hn
   obtain ⟨h1, _, h2⟩ := hs x (by simp)
   obtain ⟨k1, k2⟩ := ih2 (max n (dpt x)) (i + 1) (fun y hy => hs y (by simp [hy])) (by omega)
   refine ⟨by rw [mxK]; omega, ?_⟩
   rw [Zc8]; show (Zay x >>= _) = _; rw [h2, Zo, mx, k2, mxK, Nat.max_assoc]
 have hv0 : 0 < e.vol := by omega
 obtain ⟨a1, a2⟩ := r1 e.fBinds 0 0 ihb hv0
 obtain ⟨b1, b2⟩ := r2 e.fAlts _ 0 iha a1
 obtain ⟨c1, c2⟩ := r3 e.fKids _ 0 ihk b1
 obtain ⟨d1, d2⟩ := p1 e.fKids 0 0 ihk hv0
 obtain ⟨g1, g2⟩ := p2 e.fBinds _ 0 ihb d1
 have g3 := p3 e.fAlts _ 0 iha g1
 have hr : Zw e = some ((max (max (max 0 (mxB e.fBinds)) (mxA e.fAlts)) (mxK e.fKids) + 1 : Nat) : Int) := by
  rw [Zw]
  exact a2.trans (b2.trans c2)
 have hp : Zay e = some ((max (max (max 0 (mxK e.fKids)) (mxB e.fBinds)) (mxA e.fAlts) + 1 : Nat) : Int) := by
  rw [Zay]
  exact d2.trans (g2.trans g3)
 have hd : dpt e = max (max (max 0 (mxB e.fBinds)) (mxA e.fAlts)) (mxK e.fKids) + 1 := by unfold dpt; rw [hr]; rfl
 refine ⟨by omega, by rw [hr, hd], ?_⟩
 rw [hp, hd]
 congr 2
 omega
def Zi.vol (p : Zi) : Nat := Zcc p.cells
def cB (l : List Zk) : Nat := ZfO (l.map Zk.cells)
theorem ZrT (p : Zi) : p.vol = cB p.fCons + bB p.fBinds + 2 := by
 unfold Zi.vol cB bB
 rw [Zi.cells_eq]
 simp only [Zcc, ZlG]
 omega
theorem ZBP (a : Zk) (l : List Zk) : cB (a :: l) = a.fName.size + 3 + cB l := by
 unfold cB; rw [Zka]; simp only [Zk.cells, Zcc, ZlG]
theorem ZuU : ∀ l : List Zk, l.length ≤ cB l
 | [] => Nat.zero_le _
 | x :: l => by rw [ZBP, List.length_cons]; have := ZuU l; omega
theorem Zwa (x : ByteArray) : ∀ (l seen : List ByteArray), Zen seen (l ++ [x]) = (Zen seen l && (Zdx x && !decide (x ∈ seen ++ l)))
 | [], seen => by simp [Zen]
 | y :: l, seen => by
  rw [List.cons_append, Zen, Zen, Zwa x l (seen ++ [y]), List.append_assoc, List.singleton_append]
  cases (Zdx y && !decide (y ∈ seen)) <;> rfl
def Zts (c : Zk) : Bool := !(decide (c.fTag < 0) || decide (c.fArity < 0))
theorem ZAd (l : List Zk) (c : Zk) (s : ByteArray) : Zps (l ++ [c]) s = match Zps l s with | some a => some a | none => if c.fName = s then some c.fArity else none := by
 unfold Zps
 rw [List.find?_append]
 cases hf : l.find? fun c => decide (c.fName = s) with
 | some a => rfl
 | none =>
  show Option.map _ ((none : Option Zk).or _) = _
  rw [Option.none_or, List.find?_cons]
  by_cases h : c.fName = s
  ·rw [decide_eq_true h, if_pos h]; rfl
  ·rw [decide_eq_false h, if_neg h]; rfl
theorem ZyT {l : List Zk} {s : ByteArray} (h : s ∉ l.map (·.fName)) : Zps l s = none := by
 unfold Zps
 rw [Option.map_eq_none_iff, List.find?_eq_none]
 intro c hc
 rw [decide_eq_true_eq]
 intro e
 exact h (List.mem_map.2 ⟨c, hc, e⟩)
theorem ZB2 (p : Zi) (hv : p.vol ≤ 100000000) : Zdl p = some (((p.fCons.all Zts && Zen [] (p.fCons.map (·.fName))) && Zen [] (p.fBinds.map (·.fName))) && p.fBinds.all (oB p · [])) := by
 have hpv := ZrT p
 have hcl := ZuU p.fCons
 have hbl := Zpv p.fBinds
 have h2 : ∀ (s : List Za) (i : Nat), (∀ b ∈ s, b ∈ p.fBinds) → Zbh i p s = some (s.all (oB p · [])) := by
  intro s
  induction s with
  | nil => intro i _; rw [Zbh]; rfl
  | cons b s ih =>
   intro i hs
   have hb : b.vol ≤ bB p.fBinds := Zeh (f := Za.cells) (hs b (by simp))
   have hbv := ZfS b
   have hpl := Zjo b.fParams
   have hbi := ZuB (Zxr p b (by omega) (ZBf p b.fBody (by omega))) (l := []) (by simp; omega)
   rw [Zbh, List.all_cons]
   show (ZaW p b [] >>= _) = _
   rw [hbi.1, Zo, ih _ fun c hc => hs c (by simp [hc])]
   cases oB p b [] <;> rfl
 have h1 : ∀ (s pre : List Zk) (i : Nat), p.fCons = pre ++ s → ZaG (pre.map (·.fName)) i p s = some (((s.all Zts && Zen [] (p.fCons.map (·.fName))) && Zen [] (p.fBinds.map (·.fName))) && p.fBinds.all (oB p · [])) := by
  intro s
  induction s with
  | nil =>
   intro pre i hp
   rw [List.append_nil] at hp
   rw [ZaG, ← hp]
   show (ZbI (p.fCons.map (·.fName)) >>= _) = _
   rw [ZjL, Zo, (Zif p.fBinds (by omega)).1, h2 _ _ fun b hb => hb, List.all_nil, Bool.true_and]
   simp only [Zo]
   rw [ZjL]
   cases Zen [] (p.fCons.map (·.fName)) <;> cases Zen [] (p.fBinds.map (·.fName)) <;> rfl
  | cons c s ih =>
   intro pre i hp
   have hl : pre.length ≤ p.fCons.length := by rw [hp]; simp
   have := ih (pre ++ [c]) (i + 1) (by rw [hp]; simp)
   rw [List.map_append] at this
   have this' : ZaG (pre.map (·.fName) ++ [c.fName]) (i + 1) p s = _ := this
   rw [ZaG, List.all_cons]
   show (ZaK (((pre.map (·.fName)).length + [c.fName].length) * 16 ≤ 140737488355328) >>= fun _ => if (decide (c.fTag < 0) || decide (c.fArity < 0)) = true then some false else ZaG (pre.map (·.fName) ++ [c.fName]) (i + 1) p s) = _
   rw [ZdN _ (by simp; omega), this']
   unfold Zts
   cases (decide (c.fTag < 0) || decide (c.fArity < 0)) <;> rfl
 rw [Zdl]
 exact h1 p.fCons [] 0 rfl
theorem ZBQ (p : Zi) (hv : p.vol ≤ 100000000) : ZbP p 0 [] [] false p.fCons = some (if (((p.fCons.all Zts && Zen [] (p.fCons.map (·.fName))) && Zen [] (p.fBinds.map (·.fName))) && p.fBinds.all (oB p · [])) = true then 0 else 1) := by
 have hpv := ZrT p
 have hcl := ZuU p.fCons
 have hbl := Zpv p.fBinds
 have h3 : ∀ (s : List Za) (c : Zb) (i : Nat), (∀ b ∈ s, b ∈ p.fBinds) → KS c 1000000000 → pr c.flocal = mb [] → Zom c p → Zb7 p i c.fcons c.flocal c.fbad s = some (if (c.fbad || !s.all (oB p · [])) = true then 1 else 0) := by
  intro s
  induction s with
  | nil =>
   intro c i _ _ _ _
   rw [Zb7, List.all_nil, Bool.not_true, Bool.or_false]
   cases c.fbad <;> rfl
  | cons b s ih =>
   intro c i hs hk hp ha
   have hb : b.vol ≤ bB p.fBinds := Zeh (f := Za.cells) (hs b (by simp))
   have hbv := ZfS b
   have hpl := Zjo b.fParams
   have hbi := ZuB (Zxr p b (by omega) (ZBf p b.fBody (by omega))) (l := []) (by simp; omega)
   obtain ⟨c1, n1, n2, n3⟩ := Zib c (((b.fFree.length : Nat) : Int) == 0)
   obtain ⟨c2, x1, x2⟩ := hbi.2.2 c1 0 true (fun _ => rfl) ((n3.ks hk).le (by omega)) (n3.pr.trans hp) (n3.agree ha)
   have h12 := n3.trans x2
   have he : ((((b.fFree.length : Nat) : Int) == 0) && oB p b []) = oB p b [] := by
    cases ho : oB p b [] with
    | false => rw [Bool.and_false]
    | true => rw [(hbi.2.1 ho).2 rfl]; rfl
   rw [he] at h12
   have := ih c2 (i + 1) (fun x hx => hs x (by simp [hx])) (h12.ks hk) (h12.pr.trans hp) (h12.agree ha)
   rw [Zb7]
   show (Zy c (((b.fFree.length : Nat) : Int) == 0) >>= _) = _
   rw [n1, Zo]
   show (ZaP c1 b true >>= _) = _
   rw [x1, Zo, this, h12.bad, List.all_cons]
   cases c.fbad <;> cases oB p b [] <;> rfl
 have h2 : ∀ (s pre : List Zk) (m : CM) (bad : Bool) (i : Nat), p.fCons = pre ++ s → bad = !(pre.all Zts && Zen [] (pre.map (·.fName))) → (∀ x, (Zeq x m).isSome = decide (x ∈ pre.map (·.fName))) → (bad = false → ∀ x, Zeq x m = Zps pre x) →
   ZbP p i m [] bad s = some (if (((p.fCons.all Zts && Zen [] (p.fCons.map (·.fName))) && Zen [] (p.fBinds.map (·.fName))) && p.fBinds.all (oB p · [])) = true then 0 else 1) := by
  intro s
  induction s with
  | nil =>
   intro pre m bad i hp hb hm hc
   rw [List.append_nil] at hp
   rw [← hp] at hb hc
   rw [ZbP]
   show (Zfw p.fBinds >>= _) = _
   rw [(Zif p.fBinds (by omega)).2, Zo, Zhw, Zo, Zic, Zo]
   have := h3 p.fBinds (Zb.mk m [] (bad || !Zen [] (p.fBinds.map (·.fName)))) 0 (fun b hb => hb) ⟨fun x => Int.le_refl _, fun x => by show (0 : Int) + _ ≤ _; omega⟩ (by rw [Zu5]; exact Zzk) (fun h x => hc (by rw [Bool.or_eq_false_iff] at h; exact h.1) x)
   show Zb7 p 0 m [] (bad || !Zen [] (p.fBinds.map (·.fName))) p.fBinds = _
   have this' : Zb7 p 0 m [] (bad || !Zen [] (p.fBinds.map (·.fName))) p.fBinds = some (if ((bad || !Zen [] (p.fBinds.map (·.fName))) || !p.fBinds.all (oB p · [])) = true then 1 else 0) := this
   rw [this', hb]
   cases (p.fCons.all Zts && Zen [] (p.fCons.map (·.fName))) <;> cases Zen [] (p.fBinds.map (·.fName)) <;> cases p.fBinds.all (oB p · []) <;> rfl
  | cons c s ih =>
   intro pre m bad i hp hb hm hc
   rw [ZbP]
   show (ZbW m 0 c.fName >>= fun ZB4 => Zei c.fName >>= fun ZBt => Zy (Zb.mk m [] bad) (((ZBt && (!ZB4.2)) && (decide (c.fTag ≥ 0))) && (decide (c.fArity ≥ 0))) >>= fun ZrB => ZbP p (i + 1) (Ze0 ZrB.fcons c.fName c.fArity) ZrB.flocal ZrB.fbad s) = _
   have hlk : ∃ v, ZbW m 0 c.fName = some (v, decide (c.fName ∈ pre.map (·.fName))) := by
    rw [← hm c.fName]
    unfold ZbW
    cases Zeq c.fName m with
    | some v => exact ⟨v, rfl⟩
    | none => exact ⟨0, rfl⟩
   obtain ⟨v, hv'⟩ := hlk
   rw [hv', Zo, (Zd8 c.fName).1, Zo, Zic, Zo]
   refine ih (pre ++ [c]) _ _ (i + 1) (by rw [hp]; simp) ?_ ?_ ?_
   ·show (bad || !(((Zdx c.fName && !decide (c.fName ∈ pre.map (·.fName))) && decide (c.fTag ≥ 0)) && decide (c.fArity ≥ 0))) = _
    rw [hb, List.all_append, List.map_append, show [c].map (·.fName) = [c.fName] from rfl, Zwa, List.nil_append, List.all_cons, List.all_nil, Bool.and_true]
    have ht : Zts c = (decide (c.fTag ≥ 0) && decide (c.fArity ≥ 0)) := by
     unfold Zts; rw [Bool.eq_iff_iff]; simp
    rw [ht]
    cases pre.all Zts <;> cases Zen [] (pre.map (·.fName)) <;> cases Zdx c.fName <;> cases decide (c.fName ∈ pre.map (·.fName)) <;> cases decide (c.fTag ≥ 0) <;> cases decide (c.fArity ≥ 0) <;> rfl
   ·intro x
    show (Zeq x (Ze0 m c.fName c.fArity)).isSome = _
    rw [Zkz]
    by_cases e : x = c.fName
    ·rw [if_pos e, decide_eq_true (by rw [e]; simp)]; rfl
    ·rw [if_neg e, hm x]; apply decide_eq_decide.2; rw [List.map_append, List.mem_append]; exact ⟨.inl, fun h => h.resolve_right fun h => e (by simpa using h)⟩
   ·intro hbad x
    have hbad' : (bad || !(((Zdx c.fName && !decide (c.fName ∈ pre.map (·.fName))) && decide (c.fTag ≥ 0)) && decide (c.fArity ≥ 0))) = false := hbad
    rw [Bool.or_eq_false_iff, Bool.not_eq_false', Bool.and_eq_true, Bool.and_eq_true, Bool.and_eq_true, Bool.not_eq_true'] at hbad'
    obtain ⟨hb0, ⟨⟨_, hnot⟩, _⟩, _⟩ := hbad'
    have hnot := of_decide_eq_false hnot
    show Zeq x (Ze0 m c.fName c.fArity) = _
    rw [Zkz, ZAd, ← hc hb0 x]
    by_cases e : x = c.fName
    ·rw [if_pos e, if_pos e.symm, hc hb0 x, e, ZyT hnot]
    ·rw [if_neg e, if_neg (fun h => e h.symm)]
     cases Zeq x m <;> rfl
 exact h2 p.fCons [] [] false 0 rfl rfl (fun x => rfl) (fun _ x => rfl)
theorem ZsU (p : Zi) (hv : p.vol ≤ 100000000) : ∃ k, ZeF p = some k ∧ Zd5 p = some k ∧ (k = 0 → ∀ b ∈ p.fBinds, LB b ∧ b.fFree = []) := by
 have hpv := ZrT p
 have hcl := ZuU p.fCons
 have hbl := Zpv p.fBinds
 have key : ∀ (s : List Za) (n i j : Nat), (∀ b ∈ s, b ∈ p.fBinds) → n + bB s ≤ 1000000000 → ∃ k, Zcw n p i s = some k ∧ Zbd n j p s = some k ∧ (k = 0 → ∀ b ∈ p.fBinds, LB b ∧ b.fFree = []) := by
  intro s
  induction s with
  | nil =>
   intro n i j _ hn
   rw [Zcw, Zbd]
   show ∃ k, (if ((decide (((n : Nat) : Int) > 60000) || decide (((p.fCons.length : Nat) : Int) > 60000)) || decide (((p.fBinds.length : Nat) : Int) > 60000)) = true then some 3 else ZbP p 0 [] [] false p.fCons) = _ ∧ (if ((decide (((n : Nat) : Int) > 60000) || decide (((p.fCons.length : Nat) : Int) > 60000)) || decide (((p.fBinds.length : Nat) : Int) > 60000)) = true then some 3 else Zdl p >>= _) = _ ∧ _
   cases ((decide (((n : Nat) : Int) > 60000) || decide (((p.fCons.length : Nat) : Int) > 60000)) || decide (((p.fBinds.length : Nat) : Int) > 60000)) with
   | true => exact ⟨3, rfl, rfl, fun h => absurd h (by decide)⟩
   | false =>
    rw [ifF, ifF, ZBQ p hv, ZB2 p hv, Zo]
    cases hok : (((p.fCons.all Zts && Zen [] (p.fCons.map (·.fName))) && Zen [] (p.fBinds.map (·.fName))) && p.fBinds.all (oB p · [])) with
    | false => exact ⟨1, rfl, rfl, fun h => absurd h (by decide)⟩
    | true =>
     refine ⟨0, rfl, rfl, fun _ b hb => ?_⟩
     rw [Bool.and_eq_true] at hok
     have hbv : b.vol ≤ bB p.fBinds := Zeh (f := Za.cells) hb
     have hbe := ZfS b
     have hpl := Zjo b.fParams
     have hbi := ZuB (Zxr p b (by omega) (ZBf p b.fBody (by omega))) (l := []) (by simp; omega)
     have := hbi.2.1 (List.all_eq_true.1 hok.2 b hb)
     exact ⟨this.1, this.2 rfl⟩
  | cons b s ih =>
   intro n i j hs hn
   rw [Zlk] at hn
   have hbv := ZfS b
   obtain ⟨_, n1, n2⟩ := Zub b.fBody (by omega)
   obtain ⟨m, m1, m2, m3⟩ := Zul b.fBody (by omega)
   have hw : IntKind.i64.wrap (((n : Nat) : Int) + ((m : Nat) : Int)) = ((n + m : Nat) : Int) := by rw [w64 (by omega) (by omega)]; omega
   obtain ⟨k, k1, k2, k3⟩ := ih (n + m) (i + 1) (j + 1) (fun x hx => hs x (by simp [hx])) (by omega)
   rw [Zcw, Zbd]
   show ∃ k, (Zay b.fBody >>= fun r49 => if decide (r49 > 4000) = true then some 4 else ZcY b.fBody >>= fun r51 => Zcw (IntKind.i64.wrap (((n : Nat) : Int) + r51)) p (i + 1) s) = _ ∧ (Zw b.fBody >>= fun r49 => if decide (r49 > 4000) = true then some 4 else ZaJ b.fBody >>= fun r51 => Zbd (IntKind.i64.wrap (((n : Nat) : Int) + r51)) (j + 1) p s) = _ ∧ _
   rw [n1, n2, Zo, Zo, m2, m3, Zo, Zo, hw, k1, k2]
   cases decide (((dpt b.fBody : Nat) : Int) > 4000) with
   | true => exact ⟨4, rfl, rfl, fun h => absurd h (by decide)⟩
   | false => exact ⟨k, rfl, rfl, k3⟩
 rw [ZeF, Zd5]
 exact key p.fBinds 0 0 0 (fun b hb => hb) (by omega)
theorem ZtB (p : Zi) (hv : p.vol ≤ 100000000) : ∃ b, Zde p = some b := by
 have hpv := ZrT p
 have hbl := Zpv p.fBinds
 have key : ∀ (s : List Za) (n i : Nat), n + bB s ≤ 1000000000 → ∃ b, Zbe n i p s = some b := by
  intro s
  induction s with
  | nil => intro n i _; rw [Zbe]; exact ⟨_, rfl⟩
  | cons b s ih =>
   intro n i hn
   rw [Zlk] at hn
   have hbv := ZfS b
   obtain ⟨_, n1, n2⟩ := Zub b.fBody (by omega)
   obtain ⟨m, m1, m2, m3⟩ := Zul b.fBody (by omega)
   have hw : IntKind.i64.wrap (((n : Nat) : Int) + ((m : Nat) : Int)) = ((n + m : Nat) : Int) := by rw [w64 (by omega) (by omega)]; omega
   obtain ⟨k, k1⟩ := ih (n + m) (i + 1) (by omega)
   rw [Zbe]
   show ∃ k, (Zw b.fBody >>= fun r70 => if decide (r70 > 60) = true then some false else ZaJ b.fBody >>= fun r72 => Zbe (IntKind.i64.wrap (((n : Nat) : Int) + r72)) (i + 1) p s) = _
   rw [n1, Zo, m3, Zo, hw, k1]
   cases decide (((dpt b.fBody : Nat) : Int) > 60) with
   | true => exact ⟨_, rfl⟩
   | false => exact ⟨_, rfl⟩
 rw [Zde]
 exact key p.fBinds p.fBinds.length 0 (by omega)
theorem Zvq (p : Zi) (hv : p.vol ≤ 100000000) : Zdg p = some true := by
 obtain ⟨b, hb⟩ := ZtB p hv
 obtain ⟨k, h1, _, h3⟩ := ZsU p hv
 have hl : (∀ b ∈ p.fBinds, LB b ∧ b.fFree = []) → ∀ (s : List Za) (i : Nat), (∀ b ∈ s, b ∈ p.fBinds) → ZaO i p s = some true := by
  intro hall s
  induction s with
  | nil => intro i _; rw [ZaO, ZEh]; rfl
  | cons x s ih =>
   intro i hs
   have hx := hall x (hs x (by simp))
   rw [ZaO]
   show ((if decide (((x.fFree.length : Nat) : Int) > 0) = true then some true else Z9 x.fBody >>= fun r69 => some (!r69)) >>= _) = _
   rw [hx.2, hx.1.bd]
   exact ih _ fun y hy => hs y (by simp [hy])
 rw [Zdg, hb, Zo, h1, ZEh]
 cases b with
 | false => rfl
 | true =>
  rw [Bool.not_true, ifF, Zo, Zo]
  by_cases hk : k = 0
  ·rw [hk]
   exact hl (h3 hk) p.fBinds 0 fun b hb => hb
  ·rw [show (k != 0) = true from by simpa using hk]; rfl

def EqO {α : Type} (o : Option Bool) (a b : α) : Prop := ∃ ok, o = some ok ∧ (ok = true ↔ a = b)
theorem ZlF {α : Type} {o : Option Bool} {a b : α} (h1 : a = b → o = some true) (h2 : a ≠ b → o = some false) : EqO o a b := by
 by_cases h : a = b
 ·exact ⟨true, h1 h, ⟨fun _ => h, fun _ => rfl⟩⟩
 ·exact ⟨false, h2 h, ⟨fun e => absurd e (by decide), fun e => absurd e h⟩⟩
theorem Zt8 {α : Type} {o : Option Bool} {a b : α} (h : EqO o a b) (e : a = b) : o = some true := by
 obtain ⟨ok, h1, h2⟩ := h; rw [h1, h2.2 e]
theorem Zvr {α : Type} {o : Option Bool} {a b : α} (h : EqO o a b) (e : a ≠ b) : o = some false := by
 obtain ⟨ok, h1, h2⟩ := h
 rw [h1]
 cases ok with
 | true => exact absurd (h2.1 rfl) e
 | false => rfl
theorem Zse (m n : Nat) : (((m : Nat) : Int) != ((n : Nat) : Int)) = !decide (m = n) := by rw [Bool.eq_iff_iff]; simp; omega
theorem ZnR {a b : Zj} : a = b ↔ a.fOp = b.fOp ∧ a.fName = b.fName ∧ a.fArgs = b.fArgs ∧ a.fRec = b.fRec ∧ a.fBinds = b.fBinds ∧ a.fKids = b.fKids ∧ a.fAlts = b.fAlts := by
 cases a; cases b; simp [Zj.fOp, Zj.fName, Zj.fArgs, Zj.fRec, Zj.fBinds, Zj.fKids, Zj.fAlts]
theorem ZvT {a b : Za} : a = b ↔ a.fName = b.fName ∧ a.fOp = b.fOp ∧ a.fFree = b.fFree ∧ a.fParams = b.fParams ∧ a.fBody = b.fBody := by
 cases a; cases b; simp [Za.fName, Za.fOp, Za.fFree, Za.fParams, Za.fBody]
theorem Zxg {a b : Zf} : a = b ↔ a.fOp = b.fOp ∧ a.fName = b.fName ∧ a.fN = b.fN ∧ a.fVars = b.fVars ∧ a.fBody = b.fBody := by
 cases a; cases b; simp [Zf.fName, Zf.fOp, Zf.fN, Zf.fVars, Zf.fBody]
theorem ZCh (x y : ZJ) : ((x.fOp == y.fOp) && ((x.fName.toList == y.fName.toList) && ((x.fN == y.fN) && true))) = decide (x.fOp = y.fOp ∧ x.fName = y.fName ∧ x.fN = y.fN) := by
 rw [Zf1, ieq, ieq, Bool.eq_iff_iff]; simp
theorem Zxo {x y : ZJ} : (x.fOp = y.fOp ∧ x.fName = y.fName ∧ x.fN = y.fN) ↔ x = y := by
 cases x; cases y; simp
theorem ZEL (x y : Zk) : ((x.fName.toList == y.fName.toList) && ((x.fTag == y.fTag) && ((x.fArity == y.fArity) && true))) = decide (x.fName = y.fName ∧ x.fTag = y.fTag ∧ x.fArity = y.fArity) := by
 rw [Zf1, ieq, ieq, Bool.eq_iff_iff]; simp
theorem ZBu {x y : Zk} : (x.fName = y.fName ∧ x.fTag = y.fTag ∧ x.fArity = y.fArity) ↔ x = y := by
 cases x; cases y; simp
theorem Zqf (a b : List ByteArray) : EqO (ZaB a b) a b := ⟨decide (a = b), ZqX a b, by simp⟩
theorem ZxE {α : Type} {F : Nat → List α → Option Bool} {b : List α} {G : Option Bool} (hn : ∀ i, F i [] = G) (hc : ∀ (i : Nat) (x : α) (s : List α) (y : α), b[i]? = some y → (x = y → F i (x :: s) = F (i + 1) s) ∧ (x ≠ y → F i (x :: s) = some false)) :
  ∀ (s t q : List α), b = q ++ t → t.length = s.length → (s = t → F q.length s = G) ∧ (s ≠ t → F q.length s = some false) := by
 intro s
 induction s with
 | nil =>
  intro t q _ ht
  rw [List.length_nil, List.length_eq_zero_iff] at ht
  exact ⟨fun _ => hn _, fun h => absurd ht.symm h⟩
 | cons x s ih =>
  intro t q hb ht
  cases t with
  | nil => simp at ht
  | cons y t =>
   have hg : b[q.length]? = some y := by rw [hb]; simp
   have := ih t (q ++ [y]) (by rw [hb]; simp) (by simpa using ht)
   rw [List.length_append] at this
   obtain ⟨h1, h2⟩ := hc q.length x s y hg
   by_cases e : x = y
   ·rw [h1 e, e]
    exact ⟨fun h => this.1 (by injection h), fun h => this.2 fun k => h (by rw [k])⟩
   ·exact ⟨fun h => by injection h with h; exact absurd h e, fun _ => h2 e⟩
theorem ZkI {α : Type} {a b : List α} {f : Option Bool} {F : Nat → List α → Option Bool} (hf : f = if (((a.length : Nat) : Int) != ((b.length : Nat) : Int)) = true then some false else F 0 a) (hn : ∀ i, F i [] = some true)
  (hc : ∀ (i : Nat) (x : α) (s : List α) (y : α), x ∈ a → (∀ z ∈ s, z ∈ a) → b[i]? = some y → (x = y → F i (x :: s) = F (i + 1) s) ∧ (x ≠ y → F i (x :: s) = some false)) : EqO f a b := by
 rw [hf, Zse]
 by_cases hl : a.length = b.length
 ·rw [decide_eq_true hl, Bool.not_true, ifF]
  have key : ∀ (s t q : List α), (∀ z ∈ s, z ∈ a) → b = q ++ t → t.length = s.length → (s = t → F q.length s = some true) ∧ (s ≠ t → F q.length s = some false) := by
   intro s
   induction s with
   | nil =>
    intro t q _ _ ht
    rw [List.length_nil, List.length_eq_zero_iff] at ht
    exact ⟨fun _ => hn _, fun h => absurd ht.symm h⟩
   | cons x s ih =>
    intro t q hs hb ht
    cases t with
    | nil => simp at ht
    | cons y t =>
     have hg : b[q.length]? = some y := by rw [hb]; simp
     have := ih t (q ++ [y]) (fun z hz => hs z (by simp [hz])) (by rw [hb]; simp) (by simpa using ht)
     rw [List.length_append] at this
     obtain ⟨h1, h2⟩ := hc q.length x s y (hs x (by simp)) (fun z hz => hs z (by simp [hz])) hg
     by_cases e : x = y
     ·rw [h1 e, e]
      exact ⟨fun h => this.1 (by injection h), fun h => this.2 fun k => h (by rw [k])⟩
     ·exact ⟨fun h => by injection h with h; exact absurd h e, fun _ => h2 e⟩
  have := key a b [] (fun z hz => hz) rfl hl.symm
  exact ZlF this.1 this.2
 ·rw [decide_eq_false hl, Bool.not_false, ifT]
  exact ZlF (fun h => absurd (by rw [h]) hl) fun _ => rfl
theorem Zpf (a b : List ByteArray) : EqO (Zcy a b) a b := by
 refine ZkI (F := fun i s => Zah a b i s) rfl (fun i => by rw [Zah]) fun i x s y _ _ hg => ?_
 have : Zah a b i (x :: s) = if (!decide (x = y)) = true then some false else Zah a b (i + 1) s := by
  rw [Zah]
  show (b[i]? >>= _) = _
  rw [hg, Zo, Zf1]
 exact ⟨fun e => by rw [this, decide_eq_true e]; rfl, fun e => by rw [this, decide_eq_false e]; rfl⟩
theorem ZyN (a b : List ZJ) : EqO (Zef a b) a b := by
 refine ZkI (F := fun i s => ZaH a b i s) rfl (fun i => by rw [ZaH]) fun i x s y _ _ hg => ?_
 have : ZaH a b i (x :: s) = if (!decide (x.fOp = y.fOp ∧ x.fName = y.fName ∧ x.fN = y.fN)) = true then some false else ZaH a b (i + 1) s := by
  rw [ZaH]
  show (b[i]? >>= _) = _
  rw [hg, Zo, ZCh]
 exact ⟨fun e => by rw [this, decide_eq_true (Zxo.2 e)]; rfl, fun e => by rw [this, decide_eq_false fun h => e (Zxo.1 h)]; rfl⟩
theorem ZAe (a b : List Zk) : EqO (Zdy a b) a b := by
 refine ZkI (F := fun i s => Zag a b i s) rfl (fun i => by rw [Zag]) fun i x s y _ _ hg => ?_
 have : Zag a b i (x :: s) = if (!decide (x.fName = y.fName ∧ x.fTag = y.fTag ∧ x.fArity = y.fArity)) = true then some false else Zag a b (i + 1) s := by
  rw [Zag]
  show (b[i]? >>= _) = _
  rw [hg, Zo, ZEL]
 exact ⟨fun e => by rw [this, decide_eq_true (ZBu.2 e)]; rfl, fun e => by rw [this, decide_eq_false fun h => e (ZBu.1 h)]; rfl⟩
def SE (a : Zj) : Prop := ∀ b, EqO (Zec a b) a b ∧ EqO (ZbJ a b) a b
theorem ZEN (a b : Za) (h : SE a.fBody) : EqO (ZeT a b) a b := by
 obtain ⟨k1, e1, h1⟩ := Zqf a.fFree b.fFree
 obtain ⟨k2, e2, h2⟩ := Zqf a.fParams b.fParams
 obtain ⟨k3, e3, h3⟩ := (h b.fBody).1
 refine ⟨((decide (a.fName = b.fName) && decide (a.fOp = b.fOp)) && k1) && (k2 && k3), ?_, ?_⟩
 ·rw [ZeT, e1, e2, e3, Zf1, ieq]
  cases decide (a.fName = b.fName) <;> cases decide (a.fOp = b.fOp) <;> cases k1 <;> cases k2 <;> cases k3 <;> rfl
 ·rw [ZvT, ← h1, ← h2, ← h3]
  simp only [Bool.and_eq_true, decide_eq_true_eq]
  exact ⟨fun ⟨⟨⟨a, b⟩, c⟩, d, e⟩ => ⟨a, b, c, d, e⟩, fun ⟨a, b, c, d, e⟩ => ⟨⟨⟨a, b⟩, c⟩, d, e⟩⟩
theorem ZJ1 (a b : Zf) (h : SE a.fBody) : EqO (ZfC a b) a b := by
 obtain ⟨k1, e1, h1⟩ := Zqf a.fVars b.fVars
 obtain ⟨k3, e3, h3⟩ := (h b.fBody).1
 refine ⟨(((decide (a.fOp = b.fOp) && decide (a.fName = b.fName)) && decide (a.fN = b.fN)) && k1) && k3, ?_, ?_⟩
 ·rw [ZfC, e1, e3, Zf1, ieq, ieq]
  cases decide (a.fName = b.fName) <;> cases decide (a.fOp = b.fOp) <;> cases decide (a.fN = b.fN) <;> cases k1 <;> cases k3 <;> rfl
 ·rw [Zxg, ← h1, ← h3]
  simp only [Bool.and_eq_true, decide_eq_true_eq]
  exact ⟨fun ⟨⟨⟨⟨a, b⟩, c⟩, d⟩, e⟩ => ⟨a, b, c, d, e⟩, fun ⟨a, b, c, d, e⟩ => ⟨⟨⟨⟨a, b⟩, c⟩, d⟩, e⟩⟩
theorem ZzV (a b : List Za) (h : ∀ x ∈ a, SE x.fBody) : EqO (ZO a b) a b := by
 refine ZkI (F := fun i s => ZA b a i s) (by rw [ZO]) (fun i => by rw [ZA]) fun i x s y hx _ hg => ?_
 have hxy := ZEN x y (h x hx)
 have : ZA b a i (x :: s) = (ZeT x y >>= fun r25 => if (!r25) = true then some false else ZA b a (i + 1) s) := by
  rw [ZA]
  show (b[i]? >>= _) = _
  rw [hg, Zo]
 exact ⟨fun e => by rw [this, Zt8 hxy e]; rfl, fun e => by rw [this, Zvr hxy e]; rfl⟩
theorem ZFT (a b : List Zf) (h : ∀ x ∈ a, SE x.fBody) : EqO (Zaz a b) a b := by
 refine ZkI (F := fun i s => ZI b a i s) (by rw [Zaz]) (fun i => by rw [ZI]) fun i x s y hx _ hg => ?_
 have hxy := ZJ1 x y (h x hx)
 have : ZI b a i (x :: s) = (ZfC x y >>= fun r25 => if (!r25) = true then some false else ZI b a (i + 1) s) := by
  rw [ZI]
  show (b[i]? >>= _) = _
  rw [hg, Zo]
 exact ⟨fun e => by rw [this, Zt8 hxy e]; rfl, fun e => by rw [this, Zvr hxy e]; rfl⟩
theorem ZHE (a b : List Zj) (h : ∀ x ∈ a, SE x) : EqO (ZaQ a b) a b := by
 refine ZkI (F := fun i s => ZP b a i s) (by rw [ZaQ]) (fun i => by rw [ZP]) fun i x s y hx _ hg => ?_
 have hxy := (h x hx y).1
 have : ZP b a i (x :: s) = (Zec x y >>= fun r25 => if (!r25) = true then some false else ZP b a (i + 1) s) := by
  rw [ZP]
  show (b[i]? >>= _) = _
  rw [hg, Zo]
 exact ⟨fun e => by rw [this, Zt8 hxy e]; rfl, fun e => by rw [this, Zvr hxy e]; rfl⟩
theorem Zz3 (a b : List Za) (h : ∀ x ∈ a, SE x.fBody) : EqO (Zbt a b) a b := by
 refine ZkI (F := fun i s => ZaR a b i s) (by rw [Zbt]) (fun i => by rw [ZaR]) fun i x s y hx _ hg => ?_
 obtain ⟨k1, e1, h1⟩ := Zpf x.fFree y.fFree
 obtain ⟨k2, e2, h2⟩ := Zpf x.fParams y.fParams
 obtain ⟨k3, e3, h3⟩ := (h x hx y.fBody).2
 have hs : ZaR a b i (x :: s) = if (((decide (x.fName = y.fName) && decide (x.fOp = y.fOp)) && k1) && (k2 && k3)) = true then ZaR a b (i + 1) s else some false := by
  rw [ZaR]
  simp only [hg, Zo, e1, e2, e3, Zf1, ine]
  cases decide (x.fName = y.fName) <;> cases decide (x.fOp = y.fOp) <;> cases k1 <;> cases k2 <;> cases k3 <;> rfl
 have hk : (((decide (x.fName = y.fName) && decide (x.fOp = y.fOp)) && k1) && (k2 && k3)) = true ↔ x = y := by
  rw [ZvT, ← h1, ← h2, ← h3]
  simp only [Bool.and_eq_true, decide_eq_true_eq]
  exact ⟨fun ⟨⟨⟨a, b⟩, c⟩, d, e⟩ => ⟨a, b, c, d, e⟩, fun ⟨a, b, c, d, e⟩ => ⟨⟨⟨a, b⟩, c⟩, d, e⟩⟩
 exact ⟨fun e => by rw [hs, if_pos (hk.2 e)], fun e => by rw [hs, if_neg fun h => e (hk.1 h)]⟩
theorem ZCv (a : Zj) : SE a := by
 refine ZA4 (M := SE) (fun a ih => ?_) a
 intro b
 have hve := Zs4 a
 have ihb : ∀ x ∈ a.fBinds, SE x.fBody := fun x hx => by
  have h1 : x.vol ≤ bB a.fBinds := Zeh (f := Za.cells) hx
  have h2 := ZfS x
  exact ih _ (by omega)
 have iha : ∀ x ∈ a.fAlts, SE x.fBody := fun x hx => by
  have h1 : x.vol ≤ lB a.fAlts := Zeh (f := Zf.cells) hx
  have h2 := Ziz x
  exact ih _ (by omega)
 have ihk : ∀ x ∈ a.fKids, SE x := fun x hx => by
  have h1 : x.vol ≤ kB a.fKids := Zeh (f := Zj.cells) hx
  exact ih _ (by omega)
 constructor
 ·obtain ⟨k1, e1, h1⟩ := ZyN a.fArgs b.fArgs
  obtain ⟨k2, e2, h2⟩ := ZzV a.fBinds b.fBinds ihb
  obtain ⟨k3, e3, h3⟩ := ZHE a.fKids b.fKids ihk
  obtain ⟨k4, e4, h4⟩ := ZFT a.fAlts b.fAlts iha
  have hr : (a.fRec == b.fRec) = decide (a.fRec = b.fRec) := by rw [Bool.eq_iff_iff]; simp
  refine ⟨((((decide (a.fOp = b.fOp) && decide (a.fName = b.fName)) && decide (a.fRec = b.fRec)) && k1) && k2) && (k3 && k4), ?_, ?_⟩
  ·rw [Zec, e1, e2, e3, e4, Zf1, ieq, hr]
   generalize decide (a.fRec = b.fRec) = kr
   cases decide (a.fName = b.fName) <;> cases decide (a.fOp = b.fOp) <;> cases kr <;> cases k1 <;> cases k2 <;> cases k3 <;> cases k4 <;> rfl
  ·rw [ZnR, ← h1, ← h2, ← h3, ← h4]
   simp only [Bool.and_eq_true, decide_eq_true_eq]
   exact ⟨fun ⟨⟨⟨⟨⟨a, b⟩, c⟩, d⟩, e⟩, f, g⟩ => ⟨a, b, d, c, e, f, g⟩, fun ⟨a, b, d, c, e, f, g⟩ => ⟨⟨⟨⟨⟨a, b⟩, c⟩, d⟩, e⟩, f, g⟩⟩
 ·have h3 : ∀ (s t q : List Zf), (∀ x ∈ s, SE x.fBody) → b.fAlts = q ++ t → t.length = s.length → (s = t → Zat q.length a b s = some true) ∧ (s ≠ t → Zat q.length a b s = some false) := by
   intro s
   induction s with
   | nil =>
    intro t q _ _ ht
    rw [List.length_nil, List.length_eq_zero_iff] at ht
    exact ⟨fun _ => by rw [Zat], fun h => absurd ht.symm h⟩
   | cons x s ihs =>
    intro t q hs hb ht
    cases t with
    | nil => simp at ht
    | cons y t =>
     have hg : b.fAlts[q.length]? = some y := by rw [hb]; simp
     have hn := ihs t (q ++ [y]) (fun z hz => hs z (by simp [hz])) (by rw [hb]; simp) (by simpa using ht)
     rw [List.length_append] at hn
     obtain ⟨k1, e1, h1⟩ := Zpf x.fVars y.fVars
     obtain ⟨k3, e3, h3⟩ := (hs x (by simp) y.fBody).2
     have hst : Zat q.length a b (x :: s) = if ((((decide (x.fOp = y.fOp) && decide (x.fName = y.fName)) && decide (x.fN = y.fN)) && k1) && k3) = true then Zat (q.length + 1) a b s else some false := by
      rw [Zat]
      show (b.fAlts[q.length]? >>= _) = _
      simp only [hg, Zo, e1, e3, Zf1, ine]
      cases decide (x.fName = y.fName) <;> cases decide (x.fOp = y.fOp) <;> cases decide (x.fN = y.fN) <;> cases k1 <;> cases k3 <;> rfl
     have hk : ((((decide (x.fOp = y.fOp) && decide (x.fName = y.fName)) && decide (x.fN = y.fN)) && k1) && k3) = true ↔ x = y := by
      rw [Zxg, ← h1, ← h3]
      simp only [Bool.and_eq_true, decide_eq_true_eq]
      exact ⟨fun ⟨⟨⟨⟨a, b⟩, c⟩, d⟩, e⟩ => ⟨a, b, c, d, e⟩, fun ⟨a, b, c, d, e⟩ => ⟨⟨⟨⟨a, b⟩, c⟩, d⟩, e⟩⟩
     by_cases e : x = y
     ·rw [hst, if_pos (hk.2 e), e]
      exact ⟨fun h => hn.1 (by injection h), fun h => hn.2 fun k => h (by rw [k])⟩
     ·rw [hst, if_neg fun h => e (hk.1 h)]
      exact ⟨fun h => by injection h with h; exact absurd h e, fun _ => rfl⟩
  have h2 : ∀ (s t q : List Zj), (∀ x ∈ s, SE x) → b.fKids = q ++ t → t.length = s.length → (s = t → Zav q.length a b s = Zat 0 a b a.fAlts) ∧ (s ≠ t → Zav q.length a b s = some false) := by
   intro s
   induction s with
   | nil =>
    intro t q _ _ ht
    rw [List.length_nil, List.length_eq_zero_iff] at ht
    exact ⟨fun _ => by rw [Zav], fun h => absurd ht.symm h⟩
   | cons x s ihs =>
    intro t q hs hb ht
    cases t with
    | nil => simp at ht
    | cons y t =>
     have hg : b.fKids[q.length]? = some y := by rw [hb]; simp
     have hn := ihs t (q ++ [y]) (fun z hz => hs z (by simp [hz])) (by rw [hb]; simp) (by simpa using ht)
     rw [List.length_append] at hn
     have hxy := (hs x (by simp) y).2
     have hst : Zav q.length a b (x :: s) = (ZbJ x y >>= fun Zwk => if (!Zwk) = true then some false else Zav (q.length + 1) a b s) := by
      rw [Zav]
      show (b.fKids[q.length]? >>= _) = _
      rw [hg, Zo]
     by_cases e : x = y
     ·rw [hst, Zt8 hxy e, e]
      exact ⟨fun h => hn.1 (by injection h), fun h => hn.2 fun k => h (by rw [k])⟩
     ·rw [hst, Zvr hxy e]
      exact ⟨fun h => by injection h with h; exact absurd h e, fun _ => rfl⟩
  have h1 : ∀ (s t q : List ZJ), b.fArgs = q ++ t → t.length = s.length → (s = t → Zal q.length a b s = Zav 0 a b a.fKids) ∧ (s ≠ t → Zal q.length a b s = some false) := by
   intro s t q hb ht
   refine ZxE (F := fun i s => Zal i a b s) (fun i => by rw [Zal]) (fun i x s y hg => ?_) s t q hb ht
   have : Zal i a b (x :: s) = if (!decide (x.fOp = y.fOp ∧ x.fName = y.fName ∧ x.fN = y.fN)) = true then some false else Zal (i + 1) a b s := by
    rw [Zal]
    show (b.fArgs[i]? >>= _) = _
    rw [hg, Zo, ZCh]
   exact ⟨fun e => by rw [this, decide_eq_true (Zxo.2 e)]; rfl, fun e => by rw [this, decide_eq_false fun h => e (Zxo.1 h)]; rfl⟩
  obtain ⟨kb, eb, hb⟩ := Zz3 a.fBinds b.fBinds ihb
  have hr : (a.fRec == b.fRec) = decide (a.fRec = b.fRec) := by rw [Bool.eq_iff_iff]; simp
  have hst : ZbJ a b = if ((((((decide (a.fOp = b.fOp) && decide (a.fName = b.fName)) && decide (a.fRec = b.fRec)) && decide (a.fArgs.length = b.fArgs.length)) && decide (a.fKids.length = b.fKids.length)) && decide (a.fAlts.length = b.fAlts.length)) && kb) = true then Zal 0 a b a.fArgs else some false := by
   rw [ZbJ, eb, Zf1, ine, Zse, Zse, Zse, hr]
   generalize decide (a.fRec = b.fRec) = kr
   cases decide (a.fName = b.fName) <;> cases decide (a.fOp = b.fOp) <;> cases kr <;> cases decide (a.fArgs.length = b.fArgs.length) <;> cases decide (a.fKids.length = b.fKids.length) <;> cases decide (a.fAlts.length = b.fAlts.length) <;> cases kb <;> rfl
  by_cases hc : ((((((decide (a.fOp = b.fOp) && decide (a.fName = b.fName)) && decide (a.fRec = b.fRec)) && decide (a.fArgs.length = b.fArgs.length)) && decide (a.fKids.length = b.fKids.length)) && decide (a.fAlts.length = b.fAlts.length)) && kb) = true
  ·rw [hst, if_pos hc]
   simp only [Bool.and_eq_true, decide_eq_true_eq] at hc
   obtain ⟨⟨⟨⟨⟨⟨c1, c2⟩, c3⟩, c4⟩, c5⟩, c6⟩, c7⟩ := hc
   obtain ⟨a1, a2⟩ := h1 a.fArgs b.fArgs [] rfl c4.symm
   obtain ⟨b1, b2⟩ := h2 a.fKids b.fKids [] ihk rfl c5.symm
   obtain ⟨d1, d2⟩ := h3 a.fAlts b.fAlts [] iha rfl c6.symm
   by_cases x1 : a.fArgs = b.fArgs
   ·by_cases x2 : a.fKids = b.fKids
    ·by_cases x3 : a.fAlts = b.fAlts
     ·refine ZlF (fun _ => (a1 x1).trans ((b1 x2).trans (d1 x3))) fun h => absurd (ZnR.2 ⟨c1, c2, x1, c3, hb.1 c7, x2, x3⟩) h
     ·refine ZlF (fun h => absurd (ZnR.1 h).2.2.2.2.2.2 x3) fun _ => (a1 x1).trans ((b1 x2).trans (d2 x3))
    ·refine ZlF (fun h => absurd (ZnR.1 h).2.2.2.2.2.1 x2) fun _ => (a1 x1).trans (b2 x2)
   ·refine ZlF (fun h => absurd (ZnR.1 h).2.2.1 x1) fun _ => a2 x1
  ·rw [hst, if_neg hc]
   refine ZlF (fun h => absurd ?_ hc) fun _ => rfl
   subst h
   rw [hb.2 rfl]
   simp
theorem Zr4 {a b : Zi} : a = b ↔ a.fCons = b.fCons ∧ a.fBinds = b.fBinds := by
 cases a; cases b; simp
theorem ZAt (p q : Zi) : EqO (ZiC p q) p q := by
 obtain ⟨k1, e1, h1⟩ := ZAe p.fCons q.fCons
 obtain ⟨k2, e2, h2⟩ := ZzV p.fBinds q.fBinds fun x _ => ZCv x.fBody
 refine ⟨k1 && k2, ?_, ?_⟩
 ·rw [ZiC, e1, e2]
  cases k1 <;> cases k2 <;> rfl
 ·rw [Zr4, ← h1, ← h2, Bool.and_eq_true]
theorem ZzI (p q : Zi) : EqO (ZdA p q) p q := by
 have h1 : ∀ (s t r : List Zk), q.fCons = r ++ t → t.length = s.length → (s = t → Zar r.length p q s = some true) ∧ (s ≠ t → Zar r.length p q s = some false) := by
  intro s t r hb ht
  refine ZxE (F := fun i s => Zar i p q s) (fun i => by rw [Zar]) (fun i x s y hg => ?_) s t r hb ht
  have : Zar i p q (x :: s) = if (!decide (x.fName = y.fName ∧ x.fTag = y.fTag ∧ x.fArity = y.fArity)) = true then some false else Zar (i + 1) p q s := by
   rw [Zar]
   show (q.fCons[i]? >>= _) = _
   rw [hg, Zo, ZEL]
  exact ⟨fun e => by rw [this, decide_eq_true (ZBu.2 e)]; rfl, fun e => by rw [this, decide_eq_false fun h => e (ZBu.1 h)]; rfl⟩
 obtain ⟨kb, eb, hb⟩ := Zz3 p.fBinds q.fBinds fun x _ => ZCv x.fBody
 have hst : ZdA p q = if (decide (p.fCons.length = q.fCons.length) && kb) = true then Zar 0 p q p.fCons else some false := by
  rw [ZdA, eb, Zse]
  cases decide (p.fCons.length = q.fCons.length) <;> cases kb <;> rfl
 by_cases hc : (decide (p.fCons.length = q.fCons.length) && kb) = true
 ·rw [hst, if_pos hc]
  rw [Bool.and_eq_true, decide_eq_true_eq] at hc
  obtain ⟨a1, a2⟩ := h1 p.fCons q.fCons [] rfl hc.1.symm
  by_cases x1 : p.fCons = q.fCons
  ·exact ZlF (fun _ => a1 x1) fun h => absurd (Zr4.2 ⟨x1, hb.1 hc.2⟩) h
  ·exact ZlF (fun h => absurd (Zr4.1 h).1 x1) fun _ => a2 x1
 ·rw [hst, if_neg hc]
  refine ZlF (fun h => absurd ?_ hc) fun _ => rfl
  subst h
  rw [hb.2 rfl]
  simp
theorem Zve (p q : Zi) (hp : p.vol ≤ 100000000) (hq : q.vol ≤ 100000000) : Zdf p q = some true := by
 obtain ⟨b1, hb1⟩ := ZtB p hp
 obtain ⟨b2, hb2⟩ := ZtB q hq
 obtain ⟨k, h1, h2, _⟩ := ZsU p hp
 have hpp := Zt8 (ZAt p p) rfl
 obtain ⟨s, s1, s2⟩ := ZAt p q
 have s3 : ZdA p q = some s := by
  cases s with
  | true => exact Zt8 (ZzI p q) (s2.1 rfl)
  | false => exact Zvr (ZzI p q) fun h => by have := s2.2 h; cases this
 rw [Zdf, hb1, hb2, h1, h2, s1, s3, hpp, ZEh]
 cases b1 <;> cases b2 <;> first | rfl | skip
 show ((if (k == k) = true then _ else some false) >>= _) = _
 rw [show (k == k) = true from by simp, ifT]
 show ((some (s == s)) >>= _) = _
 rw [show (s == s) = true from by simp]
 rfl

theorem Zuy {W : World} (h : Lib.TabIs Tryz.prog W "internal/strconv.uint64pow10" .u64 Lib.pow10Tab) : ∀ x ∈ Zp0, old W x.1 x.2.1 ∧ x.2.2 (W.cell? ⟨x.1, x.2.1, none⟩) := by
 have hg : Tryz.prog.globalNamed "internal/strconv.uint64pow10" = some 1 := by kernel_rfl
 unfold Lib.TabIs World.var? at h
 rw [hg] at h
 simp only [Option.bind_some] at h
 split at h
 case h_2 => cases h
 rename_i cs t f hc
 injection h with h
 have hlt : 1 < W.heap.size := by
  rcases Nat.lt_or_ge 1 W.heap.size with h1 | h1
  ·exact h1
  ·rw [Array.getElem?_eq_none h1] at hc; cases hc
 have hcell : ∀ i, W.cell? ⟨1, i, none⟩ = (Lib.pow10Tab[i]?).map fun z => Value.int .u64 z := fun i => by
  have e0 : ((Lib.pow10Tab.map fun z => Value.int .u64 z).toArray)[i]? = (Lib.pow10Tab.map fun z => Value.int .u64 z)[i]? := List.getElem?_toArray
  simp only [World.cell?, hc, Option.isSome_none, Bool.false_eq_true, if_false, h]
  rw [e0, List.getElem?_map]
 intro x hx
 rcases List.mem_cons.1 hx with rfl | hx
 ·refine ⟨hlt, ?_⟩
  show Zs8 (W.cell? ⟨1, 20, none⟩)
  rw [hcell]; rfl
 ·obtain ⟨i, hi, rfl⟩ := List.mem_map.1 hx
  have hi := List.mem_range.1 hi
  refine ⟨hlt, ?_⟩
  show Zvl i (W.cell? ⟨1, i, none⟩)
  rw [hcell, Lib.pow10Tab, List.getElem?_map, List.getElem?_range hi]
  rfl
theorem tab_third {W : World} {a b : String × DataW Unit} {r : List (String × DataW Unit)} (h : laidMet Tryz.prog (a :: b :: ("internal/strconv.uint64pow10", Lib.tabData .u64 Lib.pow10Tab) :: r) W) : Lib.TabIs Tryz.prog W "internal/strconv.uint64pow10" .u64 Lib.pow10Tab :=
 Lib.tabIs_of_head (g := 1) (t := 178) (e := 160) (n := 20) (by kernel_rfl) (by kernel_rfl) (by kernel_rfl) (by kernel_rfl) (by kernel_rfl) (by kernel_rfl) h.tail.tail
theorem globs0 {W : World} (h : Lib.TabIs Tryz.prog W "internal/strconv.uint64pow10" .u64 Lib.pow10Tab) (hr : Zf0 = []) : Zlh Tryz.prog W (old W) := fun x hx => Zuy h x (by
 have hx : x ∈ Zp0 ++ Zf0 := hx
 rwa [hr, List.append_nil] at hx)

theorem ZwX {P : Program} {W : World} {sp : Nat → Bool} {fuel t : Nat} {ms : Array (String × TypeId)} {nm : String} {d : DataW Unit} {p : List MemPlace} (hi : P.underlying t = some (.interface ms)) :
  ∀ cs : List Value, DataW.trod (fun _ => ()) P W 0 sp false fuel t cs = some (.iface nm d, p) → ∃ u v, cs = [.iface u v] := by
 intro cs h
 cases fuel with
 | zero => simp [DataW.trod] at h
 | succ fuel =>
  unfold DataW.trod at h
  rw [hi] at h
  split at h <;> first | (cases h; done) | (simp at h; done) | exact ⟨_, _, rfl⟩ | simp_all
theorem ZvY {P : Program} {n nm : String} {d : DataW Unit} {r : List (String × DataW Unit)} {W : World} {g ti : Nat} {ms : Array (String × TypeId)} (h : laidMet P ((n, .iface nm d) :: r) W) (hg : P.globalNamed n = some g)
  (ht : (P.globals[g]?).map (·.type) = some ti) (hi : P.underlying ti = some (.interface ms)) : ∃ u v, W.cell? ⟨g, 0, none⟩ = some (.iface u v) := by
 obtain ⟨ps, ⟨g', t, cs, fuel, p, q, h1, h2, h3, h4, h5, h6⟩, hn, hc⟩ := h
 obtain rfl := Option.some.inj (hg.symm.trans h1)
 obtain rfl := Option.some.inj (ht.symm.trans h2)
 obtain ⟨u, v, hcs⟩ := ZwX hi cs.toList h4
 have := World.var?_cell hg h3 0
 refine ⟨u, v, ?_⟩
 rw [this, ← Array.getElem?_toList, hcs]; rfl
theorem Zti {W : World} {g : Nat} {v : Value} (h : W.cell? ⟨g, 0, none⟩ = some v) : g < W.heap.size := by
 unfold World.cell? at h
 rcases Nat.lt_or_ge g W.heap.size with h1 | h1
 ·exact h1
 ·simp only [Array.getElem?_eq_none h1] at h; cases h
theorem globs_full {W : World} {a b c d : String × DataW Unit} {n1 n2 : String} {d1 d2 : DataW Unit} {r : List (String × DataW Unit)} (h : Lib.TabIs Tryz.prog W "internal/strconv.uint64pow10" .u64 Lib.pow10Tab) (hS : W.ShapedOpen Tryz.prog)
  (hL : laidMet Tryz.prog (a :: b :: c :: d :: ("strconv.ErrRange", .iface n1 d1) :: ("strconv.ErrSyntax", .iface n2 d2) :: r) W) : Zlh Tryz.prog W (old W) := fun x hx => by
 have hx : x ∈ Zp0 ++ Zf0 := hx
 rcases List.mem_append.1 hx with hx | hx
 ·exact Zuy h x hx
 ·unfold Zf0 at hx
  simp only [List.mem_cons, List.not_mem_nil, or_false] at hx
  rcases hx with rfl | rfl | rfl
  ·obtain ⟨m, hm⟩ := cell_of_shapedOpen_int (zero := #[.int .i64 0]) (t := 3) hS (of_decide_eq_true (by kernel_rfl)) (by kernel_rfl) rfl (by kernel_rfl) (by kernel_rfl) Tryz.underlying3
   exact ⟨Zti hm, m, hm⟩
  ·obtain ⟨u, v, he⟩ := ZvY (g := 4) (ti := 118) hL.tail.tail.tail.tail.tail (by kernel_rfl) (by kernel_rfl) Tryz.underlying118
   exact ⟨Zti he, _, he, .inr ⟨u, v, rfl⟩⟩
  ·obtain ⟨u, v, he⟩ := ZvY (g := 5) (ti := 118) hL.tail.tail.tail.tail (by kernel_rfl) (by kernel_rfl) Tryz.underlying118
   exact ⟨Zti he, _, he, .inr ⟨u, v, rfl⟩⟩

mutual
theorem ZrR {H : Type} : ∀ d : DataW H, Rows.uptoBulk d = ZjO d
 | .lit l => by cases l <;> simp [Rows.uptoBulk, ZjO]
 | .nil => by simp [Rows.uptoBulk, ZjO]
 | .ptr d => by simp [Rows.uptoBulk, ZjO, ZrR d]
 | .slice es sp => by simp [Rows.uptoBulk, ZjO, Zof es, Zof sp]
 | .agg ps => by simp [Rows.uptoBulk, ZjO, Zof ps]
 | .iface _ d => by simp [Rows.uptoBulk, ZjO, ZrR d]
 | .map es => by simp [Rows.uptoBulk, ZjO, Zut es]
 | .held _ => by simp [Rows.uptoBulk, ZjO]
theorem Zof {H : Type} : ∀ l : List (DataW H), Rows.uptoBulkAll l = bulks l
 | [] => by simp [Rows.uptoBulkAll, bulks]
 | d :: l => by simp [Rows.uptoBulkAll, bulks, ZrR d, Zof l]
theorem Zut {H : Type} : ∀ l : List (Lit × DataW H), Rows.uptoBulkEntries l = Zs5 l
 | [] => by simp [Rows.uptoBulkEntries, Zs5]
 | x :: l => by simp [Rows.uptoBulkEntries, Zs5, ZAX x, Zut l]
theorem ZAX {H : Type} : ∀ x : Lit × DataW H, Rows.uptoBulkEntry x = ZAC x
 | (l, d) => by cases l <;> simp [Rows.uptoBulkEntry, ZAC, ZrR d]
end
theorem upto_bulks {H : Type} {ds : List (DataW H)} (h : Rows.uptoSmall H ds = true) : bulks ds ≤ 1048576 := by
 have h := of_decide_eq_true h
 rwa [Zof] at h

theorem ZB7 {es : List E} (h : Sh tab 49 es) : ∃ a : ZJ, es = a.cells := by
 obtain ⟨parts, rfl, hl, hf⟩ := Zqg h (fs := [(47, 0), (9, 1), (3, 2)]) rfl
 obtain ⟨a, b, c, rfl⟩ := ZH0 hl
 obtain ⟨op, rfl, _⟩ := ZnX (hf 0 47 0 a rfl rfl) (k := .i64) rfl
 obtain ⟨name, rfl, _⟩ := Zj9 (hf 1 9 1 b rfl rfl) rfl
 obtain ⟨n, rfl, _⟩ := ZnX (hf 2 3 2 c rfl rfl) (k := .i64) rfl
 exact ⟨⟨op, name, n⟩, rfl⟩
theorem ZDr {es : List E} (h : Sh tab 69 es) : ∃ a : Zk, es = a.cells := by
 obtain ⟨parts, rfl, hl, hf⟩ := Zqg h (fs := [(9, 0), (3, 1), (3, 2)]) rfl
 obtain ⟨a, b, c, rfl⟩ := ZH0 hl
 obtain ⟨name, rfl, _⟩ := Zj9 (hf 0 9 0 a rfl rfl) rfl
 obtain ⟨m, rfl, _⟩ := ZnX (hf 1 3 1 b rfl rfl) (k := .i64) rfl
 obtain ⟨n, rfl, _⟩ := ZnX (hf 2 3 2 c rfl rfl) (k := .i64) rfl
 exact ⟨⟨name, m, n⟩, rfl⟩
theorem Zsz {es : List E} (h : Sh tab 44 es) : ∃ l : List ByteArray, es = [.sl (l.map c_S)] := by
 obtain ⟨rows, h1, _, hr⟩ := ZtK h (e := 9) rfl
 obtain ⟨l, rfl⟩ := ZkK (f := c_S) rows fun row hm => by
  obtain ⟨s, hs, _⟩ := Zj9 (hr row hm) rfl
  exact ⟨s, hs⟩
 exact ⟨l, h1⟩
theorem ZAV {es : List E} (h : Sh tab 37 es) : ∃ l : List ZJ, es = [.sl (l.map ZJ.cells)] := by
 obtain ⟨rows, h1, _, hr⟩ := ZtK h (e := 49) rfl
 obtain ⟨l, rfl⟩ := ZkK (f := ZJ.cells) rows fun row hm => ZB7 (hr row hm)
 exact ⟨l, h1⟩
theorem ZBq {es : List E} (h : Sh tab 22 es) : ∃ l : List Zk, es = [.sl (l.map Zk.cells)] := by
 obtain ⟨rows, h1, _, hr⟩ := ZtK h (e := 69) rfl
 obtain ⟨l, rfl⟩ := ZkK (f := Zk.cells) rows fun row hm => ZDr (hr row hm)
 exact ⟨l, h1⟩
theorem ZJn {α : Type} {l : List α} (h : l.length = 7) : ∃ a b c d e f g, l = [a, b, c, d, e, f, g] := by
 match l, h with
 | [a, b, c, d, e, f, g], _ => exact ⟨a, b, c, d, e, f, g, rfl⟩
structure ZHM (t : Nat) (es : List E) : Prop where
 e : t = 41 → ∃ v : Zj, es = v.cells
 b : t = 57 → ∃ v : Za, es = v.cells
 a : t = 52 → ∃ v : Zf, es = v.cells
 bs : t = 23 → ∃ l : List Za, es = [.sl (l.map Za.cells)]
 ks : t = 38 → ∃ l : List Zj, es = [.sl (l.map Zj.cells)]
 al : t = 39 → ∃ l : List Zf, es = [.sl (l.map Zf.cells)]
theorem ZoB {t : Nat} {k : TK} {es : List E} (hk : (tab.ti t).k = k) (h1 : ∀ fs, k ≠ .struct fs) (h2 : ∀ e, k ≠ .slice e) : ZHM t es :=
 ⟨fun ht => by subst ht; exact absurd hk.symm (h1 _), fun ht => by subst ht; exact absurd hk.symm (h1 _), fun ht => by subst ht; exact absurd hk.symm (h1 _), fun ht => by subst ht; exact absurd hk.symm (h2 _), fun ht => by subst ht; exact absurd hk.symm (h2 _), fun ht => by subst ht; exact absurd hk.symm (h2 _)⟩
theorem ZBZ {t : Nat} {es : List E} (h : Sh tab t es) : ZHM t es := by
 induction h with
 | bool t b h => exact ZoB h (by simp) (by simp)
 | int t k n h hn => exact ZoB h (by simp) (by simp)
 | string t s h hs => exact ZoB h (by simp) (by simp)
 | array t n e parts h hl hf => exact ZoB h (by simp) (by simp)
 | slice t e rows h hl hr ih =>
  refine ⟨fun ht => (by subst ht; cases h), fun ht => (by subst ht; cases h), fun ht => (by subst ht; cases h), fun ht => ?_, fun ht => ?_, fun ht => ?_⟩
  ·subst ht
   have he : e = 57 := by injection h with h; exact h.symm
   subst he
   obtain ⟨l, rfl⟩ := ZkK (f := Za.cells) rows fun row hm => by
    obtain ⟨i, hi, rfl⟩ := List.mem_iff_getElem.1 hm
    exact (ih i _ (List.getElem?_eq_getElem hi)).b rfl
   exact ⟨l, rfl⟩
  ·subst ht
   have he : e = 41 := by injection h with h; exact h.symm
   subst he
   obtain ⟨l, rfl⟩ := ZkK (f := Zj.cells) rows fun row hm => by
    obtain ⟨i, hi, rfl⟩ := List.mem_iff_getElem.1 hm
    exact (ih i _ (List.getElem?_eq_getElem hi)).e rfl
   exact ⟨l, rfl⟩
  ·subst ht
   have he : e = 52 := by injection h with h; exact h.symm
   subst he
   obtain ⟨l, rfl⟩ := ZkK (f := Zf.cells) rows fun row hm => by
    obtain ⟨i, hi, rfl⟩ := List.mem_iff_getElem.1 hm
    exact (ih i _ (List.getElem?_eq_getElem hi)).a rfl
   exact ⟨l, rfl⟩
 | struct t fs parts h hl hf ih =>
  refine ⟨fun ht => ?_, fun ht => ?_, fun ht => ?_, fun ht => (by subst ht; cases h), fun ht => (by subst ht; cases h), fun ht => (by subst ht; cases h)⟩
  ·subst ht
   have he : fs = [(36, 0), (9, 1), (37, 2), (4, 3), (23, 4), (38, 5), (39, 6)] := by injection h with h; exact h.symm
   subst he
   obtain ⟨a, b, c, d, e, f, g, rfl⟩ := ZJn hl
   obtain ⟨op, rfl, _⟩ := ZnX (hf 0 36 0 a rfl rfl) (k := .i64) rfl
   obtain ⟨name, rfl, _⟩ := Zj9 (hf 1 9 1 b rfl rfl) rfl
   obtain ⟨args, rfl⟩ := ZAV (hf 2 37 2 c rfl rfl)
   obtain ⟨rc, rfl⟩ := ZB5 (hf 3 4 3 d rfl rfl) rfl
   obtain ⟨bs, rfl⟩ := (ih 4 23 4 e rfl rfl).bs rfl
   obtain ⟨ks, rfl⟩ := (ih 5 38 5 f rfl rfl).ks rfl
   obtain ⟨al, rfl⟩ := (ih 6 39 6 g rfl rfl).al rfl
   exact ⟨.mk op name args rc bs ks al, by rw [Zj.cells_eq]; rfl⟩
  ·subst ht
   have he : fs = [(9, 0), (55, 1), (44, 2), (44, 3), (41, 4)] := by injection h with h; exact h.symm
   subst he
   obtain ⟨a, b, c, d, e, rfl⟩ := ZHi hl
   obtain ⟨name, rfl, _⟩ := Zj9 (hf 0 9 0 a rfl rfl) rfl
   obtain ⟨op, rfl, _⟩ := ZnX (hf 1 55 1 b rfl rfl) (k := .i64) rfl
   obtain ⟨fr, rfl⟩ := Zsz (hf 2 44 2 c rfl rfl)
   obtain ⟨ps, rfl⟩ := Zsz (hf 3 44 3 d rfl rfl)
   obtain ⟨body, rfl⟩ := (ih 4 41 4 e rfl rfl).e rfl
   exact ⟨.mk name op fr ps body, by rw [Za.cells_eq, Zj.cells_eq]; rfl⟩
  ·subst ht
   have he : fs = [(50, 0), (9, 1), (3, 2), (44, 3), (41, 4)] := by injection h with h; exact h.symm
   subst he
   obtain ⟨a, b, c, d, e, rfl⟩ := ZHi hl
   obtain ⟨op, rfl, _⟩ := ZnX (hf 0 50 0 a rfl rfl) (k := .i64) rfl
   obtain ⟨name, rfl, _⟩ := Zj9 (hf 1 9 1 b rfl rfl) rfl
   obtain ⟨n, rfl, _⟩ := ZnX (hf 2 3 2 c rfl rfl) (k := .i64) rfl
   obtain ⟨vs, rfl⟩ := Zsz (hf 3 44 3 d rfl rfl)
   obtain ⟨body, rfl⟩ := (ih 4 41 4 e rfl rfl).e rfl
   exact ⟨.mk op name n vs body, by rw [Zf.cells_eq, Zj.cells_eq]; rfl⟩
theorem Zu7 {es : List E} (h : Sh tab 25 es) : ∃ p : Zi, es = p.cells := by
 obtain ⟨parts, rfl, hl, hf⟩ := Zqg h (fs := [(22, 0), (23, 1)]) rfl
 obtain ⟨a, b, rfl⟩ := ZIC hl
 obtain ⟨cs, rfl⟩ := ZBq (hf 0 22 0 a rfl rfl)
 obtain ⟨bs, rfl⟩ := (ZBZ (hf 1 23 1 b rfl rfl)).bs rfl
 exact ⟨⟨cs, bs⟩, rfl⟩

theorem ZtT {a : List E} (ha : Sh tab 25 a) (hB : Zcc a ≤ 1048576) : CallsA Tryz.prog 6 [.agg a] (fun r => r = .c none (.v (.bool true))) := by
 obtain ⟨a, rfl⟩ := Zu7 ha
 have h := Znc (Zvq a (by show Zcc _ ≤ _; omega))
 unfold Zdg.M at h
 rw [Zi.cells_eq]
 exact Zq.mono h fun d b h => h.1

theorem Zt2 {a b : List E} (ha : Sh tab 25 a) (hb : Sh tab 25 b) (hB : Zcc a + Zcc b ≤ 1048576) : CallsA Tryz.prog 8 [.agg a, .agg b] (fun r => r = .c none (.v (.bool true))) := by
 obtain ⟨a, rfl⟩ := Zu7 ha
 obtain ⟨b, rfl⟩ := Zu7 hb
 have h := Zm4 (Zve a b (by show Zcc _ ≤ _; omega) (by show Zcc _ ≤ _; omega))
 unfold Zdf.M at h
 rw [Zi.cells_eq, Zi.cells_eq]
 exact Zq.mono h fun d b h => h.1

theorem stg_both {a b : List E} (ha : Sh tab 25 a) (hb : Sh tab 25 b) (hA : Zcc a ≤ 1048576) (hB : Zcc a + Zcc b ≤ 1048576) : CallsA Tryz.prog 6 [.agg a] (fun r => r = .c none (.v (.bool true))) ∧ CallsA Tryz.prog 8 [.agg a, .agg b] (fun r => r = .c none (.v (.bool true))) :=
 ⟨ZtT ha hA, Zt2 ha hb hB⟩

end Go.Proofs.YtklkaikbpciepaaGreatDoor
