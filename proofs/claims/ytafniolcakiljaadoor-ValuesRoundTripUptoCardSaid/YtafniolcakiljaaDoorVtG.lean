/- Part 7 of the proof: the plain law. It holds for every input, without conditions. -/
import Derived.Test.YtafniolcakiljaaDoorVtA
import Derived.Test.YtafniolcakiljaaDoorVtB
import Derived.Test.YtafniolcakiljaaDoorVtC
import Derived.Test.YtafniolcakiljaaDoorVtD
import Derived.Test.YtafniolcakiljaaDoorVtE
import Derived.Test.YtafniolcakiljaaDoorVtF
set_option linter.unusedVariables false
set_option linter.unusedSimpArgs false
set_option maxRecDepth 100000
set_option maxHeartbeats 4000000
namespace Go.Proofs.YtafniolcakiljaaDoor
open Go Go.Am

theorem obind {α β : Type} (x : α) (f : α → Option β) : (some x >>= f) = f x := rfl
theorem gtrue {p : Prop} [Decidable p] {β : Type} (f : Unit → Option β) (h : p) : (guardP p >>= f) = f () := by unfold guardP; rw [if_pos h]; rfl

/-! ### exceptions in sets -/
def excEq (a b : TExc) : Bool := (a.fCon.toList == b.fCon.toList) && ((a.fN == b.fN) && true)
theorem excEq_comm (a b : TExc) : excEq a b = excEq b a := by
  unfold excEq
  have h1 : (a.fCon.toList == b.fCon.toList) = (b.fCon.toList == a.fCon.toList) := by rw [Bool.eq_iff_iff, beq_iff_eq, beq_iff_eq]; exact eq_comm
  have h2 : (a.fN == b.fN) = (b.fN == a.fN) := by rw [Bool.eq_iff_iff, beq_iff_eq, beq_iff_eq]; exact eq_comm
  rw [h1, h2]
def hasB (s : TExcSet) (e : TExc) : Bool := s.fAll || s.fList.any (excEq e)
theorem index_l (s : List TExc) (v : TExc) : ∀ (l : List TExc) (k : Nat), ∃ r, slices_Index_Exc_l1 s k v l = some r ∧ decide (r ≥ 0) = l.any (excEq v)
  | [], k => ⟨-1, by rw [slices_Index_Exc_l1], rfl⟩
  | x :: l, k => by
    rw [slices_Index_Exc_l1, List.any_cons]
    by_cases h : excEq v x = true
    · exact ⟨_, if_pos h, by rw [h]; simp⟩
    · obtain ⟨r, h1, h2⟩ := index_l s v l (k + 1)
      exact ⟨r, (if_neg h).trans h1, by rw [h2, Bool.eq_false_iff.2 h]; rfl⟩
theorem contains_eq (s : List TExc) (e : TExc) : slices_Contains_Exc s e = some (s.any (excEq e)) := by
  obtain ⟨r, h1, h2⟩ := index_l s e s 0
  rw [slices_Contains_Exc, slices_Index_Exc, h1, obind, h2]
theorem has_eq (s : TExcSet) (e : TExc) : values_Has s e = some (hasB s e) := by
  rw [values_Has, contains_eq]
  unfold hasB
  cases s.fAll <;> rfl
theorem hasr_l (s : TExcSet) (e : TExc) : ∀ (l : List TExc) (k : Nat), lazycref25_Has_l1 k s e l = some (s.fAll || l.any (excEq e))
  | [], k => by rw [lazycref25_Has_l1]; simp
  | x :: l, k => by
    rw [lazycref25_Has_l1, List.any_cons, hasr_l s e l]
    show (if excEq x e = true then _ else _) = _
    rw [excEq_comm]
    cases excEq e x
    · simp
    · simp
theorem hasr_eq (s : TExcSet) (e : TExc) : lazycref25_Has s e = some (hasB s e) := by rw [lazycref25_Has, hasr_l]; rfl
def withinB (a b : TExcSet) : Bool := if a.fAll || b.fAll then b.fAll else a.fList.all (hasB b)
theorem within_l (a b : TExcSet) : ∀ (l : List TExc) (k : Nat), values_Within_l1 a k b l = some (l.all (hasB b))
  | [], k => by rw [values_Within_l1]; rfl
  | x :: l, k => by
    rw [values_Within_l1, List.all_cons, within_l a b l, has_eq, obind]
    cases hasB b x <;> rfl
theorem within_eq (a b : TExcSet) : values_Within a b = some (withinB a b) := by
  rw [values_Within, within_l]; unfold withinB; split <;> rfl
theorem withinr_l (a b : TExcSet) : ∀ (l : List TExc) (k : Nat), lazycref25_Within_l1 k a b l = some (l.all (hasB b))
  | [], k => by rw [lazycref25_Within_l1]; rfl
  | x :: l, k => by
    rw [lazycref25_Within_l1, List.all_cons, withinr_l a b l, hasr_eq, obind]
    cases hasB b x <;> rfl
theorem withinr_eq (a b : TExcSet) : lazycref25_Within a b = some (withinB a b) := by
  rw [lazycref25_Within, withinr_l]; unfold withinB; split <;> rfl

/-! ### refinement -/
mutual
def refB : TValue → TValue → Bool
  | .mk op name n kids set, b =>
    if ((b.fOp == 6) || ((b.fOp == 5) && b.fSet.fAll)) = true then true
    else if (op != b.fOp) = true then false
    else if (b.fOp == 1) = true then n == b.fN
    else if (b.fOp == 2) = true then n == b.fN
    else if (b.fOp == 4) = true then true
    else if (b.fOp == 5) = true then withinB set b.fSet
    else if (b.fOp == 3) = true then (name.toList == b.fName.toList) && refL kids b.fKids
    else false
def refL : List TValue → List TValue → Bool
  | [], [] => true
  | x :: xs, y :: ys => refB x y && refL xs ys
  | _, _ => false
end
theorem refL_len : ∀ l m, l.length ≠ m.length → refL l m = false
  | [], [], h => absurd rfl h
  | x :: xs, y :: ys, h => by rw [refL, refL_len xs ys (by simpa using h), Bool.and_false]
  | [], _ :: _, _ => by simp [refL]
  | _ :: _, [], _ => by simp [refL]
theorem refB_eq (a b : TValue) : refB a b =
    if ((b.fOp == 6) || ((b.fOp == 5) && b.fSet.fAll)) = true then true
    else if (a.fOp != b.fOp) = true then false
    else if (b.fOp == 1) = true then a.fN == b.fN
    else if (b.fOp == 2) = true then a.fN == b.fN
    else if (b.fOp == 4) = true then true
    else if (b.fOp == 5) = true then withinB a.fSet b.fSet
    else if (b.fOp == 3) = true then (a.fName.toList == b.fName.toList) && refL a.fKids b.fKids
    else false := by cases a; rw [refB]; rfl
theorem get_mid {α : Type} {l pre post : List α} {x : α} {k : Nat} (h : l = pre ++ x :: post) (hk : k = pre.length) : l[k]? = some x := by subst h hk; simp
theorem ef_l (s1 s2 : List TValue) : ∀ (post post' pre' : List TValue) (k : Nat), (∀ x ∈ post, ∀ y, values_Refines x y = some (refB x y)) → s2 = pre' ++ post' → k = pre'.length → post.length = post'.length →
    slices_EqualFunc_Value_values_Refines_l1 s2 s1 k post = some (refL post post')
  | [], [], pre', k, _, _, _, _ => by rw [slices_EqualFunc_Value_values_Refines_l1, refL]
  | x :: post, y :: post', pre', k, h, h2, hk, hl => by
    rw [slices_EqualFunc_Value_values_Refines_l1, refL]
    simp only [get_mid h2 hk, obind, h x (by simp) y]
    cases refB x y
    · rfl
    · show slices_EqualFunc_Value_values_Refines_l1 s2 s1 (k + 1) post = _
      rw [ef_l s1 s2 post post' (pre' ++ [y]) (k + 1) (fun z hz => h z (by simp [hz])) (by rw [h2]; simp) (by rw [hk]; simp) (by simpa using hl)]; rfl
  | [], _ :: _, _, _, _, _, _, hl => by simp at hl
  | _ :: _, [], _, _, _, _, _, hl => by simp at hl
theorem refines_eq : ∀ a b : TValue, values_Refines a b = some (refB a b) := by
  refine TValue.ind fun a ih b => ?_
  have hk : ∀ t, values_Refines_k1 b t a = if t = true then some (a.fN == b.fN) else some (if (b.fOp == 4) = true then true else if (b.fOp == 5) = true then withinB a.fSet b.fSet else if (b.fOp == 3) = true then (a.fName.toList == b.fName.toList) && refL a.fKids b.fKids else false) := by
    intro t
    rw [values_Refines_k1, within_eq]
    by_cases h0 : t = true
    · rw [if_pos h0, if_pos h0]
    rw [if_neg h0, if_neg h0]
    by_cases h4 : (b.fOp == 4) = true
    · rw [if_pos h4, if_pos h4]
    rw [if_neg h4, if_neg h4]
    by_cases h5 : (b.fOp == 5) = true
    · rw [if_pos h5, if_pos h5]; rfl
    rw [if_neg h5, if_neg h5]
    by_cases h3 : (b.fOp == 3) = true
    · rw [if_pos h3, if_pos h3]
      by_cases hn : (a.fName.toList == b.fName.toList) = true
      · rw [if_pos hn, hn, slices_EqualFunc_Value_values_Refines, Bool.true_and]
        by_cases hl : a.fKids.length = b.fKids.length
        · rw [if_neg (by simp [hl]), ef_l a.fKids b.fKids a.fKids b.fKids [] 0 ih rfl rfl hl]; rfl
        · rw [if_pos (by rw [bne_iff_ne]; omega), refL_len _ _ hl]; rfl
      · rw [if_neg hn, Bool.eq_false_iff.2 hn]; rfl
    · rw [if_neg h3, if_neg h3]
  rw [values_Refines, refB_eq, hk, hk]
  by_cases h6 : ((b.fOp == 6) || ((b.fOp == 5) && b.fSet.fAll)) = true
  · rw [if_pos h6, if_pos h6]
  rw [if_neg h6, if_neg h6]
  by_cases ho : (a.fOp != b.fOp) = true
  · rw [if_pos ho, if_pos ho]
  rw [if_neg ho, if_neg ho]
  by_cases h1 : (b.fOp == 1) = true
  · rw [if_pos h1, if_pos h1, if_pos h1]
  rw [if_neg h1, if_neg h1]
  by_cases h2 : (b.fOp == 2) = true
  · rw [if_pos h2, if_pos h2]
  · rw [if_neg h2, if_neg h2]
theorem refr_l (a b : TValue) : ∀ (post post' pre' : List TValue) (k : Nat), (∀ x ∈ post, ∀ y, lazycref25_Refines x y = some (refB x y)) → b.fKids = pre' ++ post' → k = pre'.length → post.length = post'.length →
    lazycref25_Refines_l2 k a b post = some (refL post post')
  | [], [], pre', k, _, _, _, _ => by rw [lazycref25_Refines_l2, refL]
  | x :: post, y :: post', pre', k, h, h2, hk, hl => by
    rw [lazycref25_Refines_l2, refL]
    simp only [get_mid h2 hk, obind, h x (by simp) y]
    cases refB x y
    · rfl
    · show lazycref25_Refines_l2 (k + 1) a b post = _
      rw [refr_l a b post post' (pre' ++ [y]) (k + 1) (fun z hz => h z (by simp [hz])) (by rw [h2]; simp) (by rw [hk]; simp) (by simpa using hl)]; rfl
  | [], _ :: _, _, _, _, _, _, hl => by simp at hl
  | _ :: _, [], _, _, _, _, _, hl => by simp at hl
theorem refinesr_eq : ∀ a b : TValue, lazycref25_Refines a b = some (refB a b) := by
  refine TValue.ind fun a ih b => ?_
  have hk : ∀ t, lazycref25_Refines_k1 b t a = if t = true then some (a.fN == b.fN) else some (if (b.fOp == 4) = true then true else if (b.fOp == 5) = true then withinB a.fSet b.fSet else if (b.fOp == 3) = true then (a.fName.toList == b.fName.toList) && refL a.fKids b.fKids else false) := by
    intro t
    rw [lazycref25_Refines_k1, withinr_eq]
    by_cases h0 : t = true
    · rw [if_pos h0, if_pos h0]
    rw [if_neg h0, if_neg h0]
    by_cases h4 : (b.fOp == 4) = true
    · rw [if_pos h4, if_pos h4]
    rw [if_neg h4, if_neg h4]
    by_cases h5 : (b.fOp == 5) = true
    · rw [if_pos h5, if_pos h5]; rfl
    rw [if_neg h5, if_neg h5]
    by_cases h3 : (b.fOp == 3) = true
    · rw [if_pos h3, if_pos h3]
      by_cases hn : (a.fName.toList == b.fName.toList) = true
      · rw [hn, Bool.true_and]
        by_cases hl : a.fKids.length = b.fKids.length
        · rw [if_neg (by simp [hl]), refr_l a b a.fKids b.fKids [] 0 ih rfl rfl hl]
        · rw [if_pos (by rw [Bool.not_true, Bool.false_or, bne_iff_ne]; omega), refL_len _ _ hl]
      · rw [if_pos (by simp [hn]), Bool.eq_false_iff.2 hn]; rfl
    · rw [if_neg h3, if_neg h3]
  rw [lazycref25_Refines, refB_eq, hk, hk]
  by_cases h6 : ((b.fOp == 6) || ((b.fOp == 5) && b.fSet.fAll)) = true
  · rw [if_pos h6, if_pos h6]
  rw [if_neg h6, if_neg h6]
  by_cases ho : (a.fOp != b.fOp) = true
  · rw [if_pos ho, if_pos ho]
  rw [if_neg ho, if_neg ho]
  by_cases h1 : (b.fOp == 1) = true
  · rw [if_pos h1, if_pos h1, if_pos h1]
  rw [if_neg h1, if_neg h1]
  by_cases h2 : (b.fOp == 2) = true
  · rw [if_pos h2, if_pos h2]
  · rw [if_neg h2, if_neg h2]

/-! ### nodes -/
theorem nodes_l (v : TValue) : ∀ (post : List TValue) (n : Int) (k : Nat), (∀ x ∈ post, ∃ r, lazycref25_Nodes x = some r) → ∃ r, lazycref25_Nodes_l1 n k v post = some r
  | [], n, k, _ => ⟨n, by rw [lazycref25_Nodes_l1]⟩
  | x :: post, n, k, h => by
    obtain ⟨r, hr⟩ := h x (by simp)
    rw [lazycref25_Nodes_l1]
    simp only [hr, obind]
    exact nodes_l v post _ _ fun y hy => h y (by simp [hy])
theorem nodes_some : ∀ v : TValue, ∃ r, lazycref25_Nodes v = some r :=
  TValue.ind fun v ih => by rw [lazycref25_Nodes]; exact nodes_l v v.fKids 1 0 ih
theorem small_some (v : TValue) : ∃ r, lazyclaw25_small v = some r := by
  obtain ⟨n, hn⟩ := nodes_some v
  rw [lazyclaw25_small, hn]
  exact ⟨_, rfl⟩
end Go.Proofs.YtafniolcakiljaaDoor

set_option linter.unusedVariables false
set_option linter.unusedSimpArgs false
set_option maxRecDepth 100000
set_option maxHeartbeats 4000000
namespace Go.Proofs.YtafniolcakiljaaDoor
open Go Go.Am

/-! ### refinement is transitive -/
theorem excEq_iff (a b : TExc) : excEq a b = true ↔ a.fCon.toList = b.fCon.toList ∧ a.fN = b.fN := by
  unfold excEq; simp
theorem excEq_trans {a b c : TExc} (h : excEq a b = true) (k : excEq b c = true) : excEq a c = true := by
  rw [excEq_iff] at *; exact ⟨h.1.trans k.1, h.2.trans k.2⟩
theorem excEq_refl (a : TExc) : excEq a a = true := by rw [excEq_iff]; exact ⟨rfl, rfl⟩
theorem withinB_refl (a : TExcSet) : withinB a a = true := by
  unfold withinB
  cases h : a.fAll
  · simp only [Bool.or_self, Bool.false_eq_true, if_false]
    rw [List.all_eq_true]
    intro e he
    unfold hasB
    rw [Bool.or_eq_true]; right
    exact List.any_eq_true.2 ⟨e, he, excEq_refl e⟩
  · simp
theorem withinB_trans {a b c : TExcSet} (h : withinB a b = true) (k : withinB b c = true) : withinB a c = true := by
  unfold withinB at *
  cases ha : a.fAll <;> cases hb : b.fAll <;> cases hc : c.fAll <;> simp only [ha, hb, hc, Bool.or_self, Bool.or_true, Bool.true_or, Bool.false_or, Bool.or_false, if_true, Bool.false_eq_true, if_false] at h k ⊢
  · rw [List.all_eq_true] at *
    intro e he
    have h1 := h e he
    unfold hasB at h1
    rw [hb, Bool.false_or, List.any_eq_true] at h1
    obtain ⟨e', he', h2⟩ := h1
    have h3 := k e' he'
    unfold hasB at h3 ⊢
    rw [hc, Bool.false_or, List.any_eq_true] at h3 ⊢
    obtain ⟨e'', he'', h4⟩ := h3
    exact ⟨e'', he'', excEq_trans h2 h4⟩
  all_goals first | exact k | exact h | simp_all
theorem refL_trans : ∀ l m n : List TValue, (∀ x ∈ l, ∀ y z, refB x y = true → refB y z = true → refB x z = true) → refL l m = true → refL m n = true → refL l n = true
  | [], [], [], _, _, _ => by simp [refL]
  | x :: l, y :: m, z :: n, ih, h, k => by
    rw [refL, Bool.and_eq_true] at *
    exact ⟨ih x (by simp) y z h.1 k.1, refL_trans l m n (fun x' hx' => ih x' (by simp [hx'])) h.2 k.2⟩
  | [], _ :: _, _, _, h, _ => by simp [refL] at h
  | _ :: _, [], _, _, h, _ => by simp [refL] at h
  | [], [], _ :: _, _, _, k => by simp [refL] at k
  | _ :: _, _ :: _, [], _, _, k => by simp [refL] at k
theorem refB_trans : ∀ a b c : TValue, refB a b = true → refB b c = true → refB a c = true := by
  refine TValue.ind fun a ih b c hab hbc => ?_
  rw [refB_eq] at hab hbc ⊢
  by_cases h6 : ((c.fOp == 6) || ((c.fOp == 5) && c.fSet.fAll)) = true
  · rw [if_pos h6]
  rw [if_neg h6] at hbc ⊢
  by_cases ho : (b.fOp != c.fOp) = true
  · rw [if_pos ho] at hbc; cases hbc
  rw [if_neg ho] at hbc
  have hop : b.fOp = c.fOp := by simpa using ho
  have hb6 : ¬ ((b.fOp == 6) || ((b.fOp == 5) && b.fSet.fAll)) = true := by
    intro hh
    rw [hop] at hh
    have hc6 : ¬ c.fOp = 6 := fun e => h6 (by simp [e])
    have h5 : c.fOp = 5 ∧ b.fSet.fAll = true := by simpa [hc6] using hh
    have hcA : c.fSet.fAll = false := by
      cases hA : c.fSet.fAll
      · rfl
      · exact absurd (by simp [h5.1, hA]) h6
    simp [h5.1, withinB, h5.2, hcA] at hbc
  rw [if_neg hb6] at hab
  by_cases ha : (a.fOp != b.fOp) = true
  · rw [if_pos ha] at hab; cases hab
  rw [if_neg ha] at hab
  rw [hop] at hab
  have hac : a.fOp = c.fOp := by rw [← hop]; simpa using ha
  rw [if_neg (by simp [hac])]
  by_cases h1 : (c.fOp == 1) = true
  · rw [if_pos h1] at *; rw [beq_iff_eq] at *; exact hab.trans hbc
  rw [if_neg h1] at hab hbc ⊢
  by_cases h2 : (c.fOp == 2) = true
  · rw [if_pos h2] at *; rw [beq_iff_eq] at *; exact hab.trans hbc
  rw [if_neg h2] at hab hbc ⊢
  by_cases h4 : (c.fOp == 4) = true
  · rw [if_pos h4]
  rw [if_neg h4] at hab hbc ⊢
  by_cases h5 : (c.fOp == 5) = true
  · rw [if_pos h5] at *; exact withinB_trans hab hbc
  rw [if_neg h5] at hab hbc ⊢
  by_cases h3 : (c.fOp == 3) = true
  · rw [if_pos h3] at *
    rw [Bool.and_eq_true, beq_iff_eq] at *
    exact ⟨hab.1.trans hbc.1, refL_trans _ _ _ ih hab.2 hbc.2⟩
  · rw [if_neg h3] at hab; cases hab
end Go.Proofs.YtafniolcakiljaaDoor

set_option linter.unusedVariables false
set_option linter.unusedSimpArgs false
set_option maxRecDepth 100000
set_option maxHeartbeats 4000000
namespace Go.Proofs.YtafniolcakiljaaDoor
open Go Go.Am

/-! ### answers that are there -/
def Tot {α : Type} (x : Option α) : Prop := ∃ r, x = some r
theorem tot_some {α : Type} (x : α) : Tot (some x) := ⟨x, rfl⟩
theorem tot_if {α : Type} {c : Prop} [Decidable c] {x y : Option α} (h : c → Tot x) (k : ¬ c → Tot y) : Tot (if c then x else y) := by
  by_cases hc : c
  · rw [if_pos hc]; exact h hc
  · rw [if_neg hc]; exact k hc
theorem tot_bind {α β : Type} {x : Option α} {f : α → Option β} (h : Tot x) (k : ∀ r, x = some r → Tot (f r)) : Tot (x >>= f) := by
  obtain ⟨r, hr⟩ := h
  have := k r hr
  rw [hr]; exact this
theorem tot_guard {p : Prop} [Decidable p] {β : Type} {f : Unit → Option β} (h : p) (k : Tot (f ())) : Tot (guardP p >>= f) := by rw [gtrue f h]; exact k
theorem bt_in {s : ByteArray} {k : Nat} (h : k < s.size) : Tot (btI s ((k : Nat) : Int)) := by
  unfold btI
  rw [if_pos (Int.natCast_nonneg k)]
  exact ⟨s[k], getElem?_pos s k h⟩
theorem bt_in0 {s : ByteArray} (h : 0 < s.size) : Tot (btI s 0) := bt_in (k := 0) h

theorem con_l (s : ByteArray) (hs : s.size ≤ 129) (h0 : 0 < s.size) : ∀ (d k : Nat), s.size - k = d → Tot (values_constructor_l1 s k) := by
  intro d
  induction d with
  | zero =>
    intro k hk
    rw [values_constructor_l1, if_neg (by simp; omega)]
    refine tot_bind (bt_in0 h0) fun y hy => ?_
    simp only [hy, obind]
    refine tot_bind (tot_if (fun _ => tot_some _) fun _ => tot_some _) fun c1 _ => tot_bind (tot_if (fun _ => tot_some _) fun _ => tot_some _) fun c2 _ => tot_bind (tot_if (fun _ => tot_some _) fun _ => tot_some _) fun c3 _ => tot_bind (tot_if (fun _ => tot_some _) fun _ => tot_some _) fun c4 _ => tot_some _
  | succ d ih =>
    intro k hk
    have hlt : k < s.size := by omega
    rw [values_constructor_l1, if_pos (by simpa using hlt)]
    refine tot_bind (bt_in hlt) fun y hy => ?_
    simp only [hy, obind]
    refine tot_bind (tot_if (fun _ => tot_some _) fun _ => tot_some _) fun c1 _ => tot_if (fun _ => tot_some _) fun _ => tot_guard (by omega) (ih (k + 1) (by omega))
theorem toList_size (s : ByteArray) : s.toList = s.data.toList := by
  have key : ∀ (n i : Nat) (r : List UInt8), s.size - i = n → ByteArray.toList.loop s i r = r.reverse ++ s.data.toList.drop i := by
    intro n
    induction n with
    | zero =>
      intro i r h
      rw [ByteArray.toList.loop, if_neg (by omega), List.drop_eq_nil_of_le (by show s.data.toList.length ≤ i; simp; have : s.data.size = s.size := rfl; omega), List.append_nil]
    | succ n ih =>
      intro i r h
      have hi : i < s.size := by omega
      rw [ByteArray.toList.loop, if_pos hi, ih (i + 1) _ (by omega)]
      have hd : s.data.toList.drop i = s.data.toList[i]'(by simpa using hi) :: s.data.toList.drop (i + 1) := (List.drop_eq_getElem_cons (by simpa using hi))
      rw [hd]
      have : s.get! i = s.data.toList[i]'(by simpa using hi) := by
        have hi' : i < s.data.size := hi
        show s.data[i]! = _
        rw [getElem!_pos s.data i hi']; simp
      rw [this]; simp
  have := key s.size 0 [] (by omega)
  simpa [ByteArray.toList] using this
theorem con_some (s : ByteArray) : Tot (values_constructor s) := by
  rw [values_constructor]
  refine tot_if (fun _ => tot_some _) fun h => ?_
  simp only [Bool.or_eq_true, decide_eq_true_eq, beq_iff_eq, not_or] at h
  refine con_l s (by omega) ?_ _ 0 rfl
  rcases Nat.eq_zero_or_pos s.size with h0 | h0
  · exfalso
    apply h.1.1
    rw [toList_size, toList_size]
    have : s.data.size = 0 := h0
    simp [Array.eq_empty_of_size_eq_zero this]
  · exact h0
theorem compare_some (a b : TExc) : Tot (values_compare a b) := by
  rw [values_compare, strings_Compare]
  simp only [obind]
  exact tot_if (fun _ => tot_some _) fun _ => tot_if (fun _ => tot_some _) fun _ => tot_if (fun _ => tot_some _) fun _ => tot_some _
theorem i64_small {n : Int} (h : 0 ≤ n) (k : n ≤ 9223372036854775807) : IntKind.i64.wrap n = n := IntWalk.i64_in n ⟨by omega, by omega⟩
theorem valid_l (s : TExcSet) (hs : s.fList.length ≤ 16) : ∀ (post pre : List TExc) (k : Nat), s.fList = pre ++ post → k = pre.length → Tot (values_validSet_l1 s k post)
  | [], pre, k, _, _ => by rw [values_validSet_l1]; exact tot_some _
  | x :: post, pre, k, h, hk => by
    rw [values_validSet_l1]
    have hlen : k < s.fList.length := by rw [h, hk]; simp
    refine tot_bind (con_some _) fun r _ => tot_bind (tot_if (fun _ => tot_some _) fun _ => tot_bind (tot_if (fun hp => ?_) fun _ => tot_some _) fun _ _ => tot_some _) fun c _ => tot_if (fun _ => tot_some _) fun _ => valid_l s hs post (pre ++ [x]) (k + 1) (by rw [h]; simp) (by rw [hk]; simp)
    have hp : 0 < k := by simpa using hp
    refine tot_bind ?_ fun y _ => tot_bind (compare_some _ _) fun _ _ => tot_some _
    rw [i64_small (by omega) (by omega)]
    unfold ixI
    rw [if_pos (by omega)]
    exact ⟨_, List.getElem?_eq_getElem (by omega)⟩
theorem validSet_some (s : TExcSet) : Tot (values_validSet s) := by
  rw [values_validSet]
  exact tot_if (fun _ => tot_some _) fun _ => tot_if (fun _ => tot_some _) fun h => valid_l s (by simp at h; omega) s.fList [] 0 rfl rfl
theorem depth_some : ∀ v : TValue, Tot (values_depth v) := by
  refine TValue.ind fun v ih => ?_
  rw [values_depth]
  have key : ∀ (post : List TValue) (n : Int) (k : Nat), (∀ x ∈ post, Tot (values_depth x)) → Tot (values_depth_l1 n v k post) := by
    intro post
    induction post with
    | nil => intro n k _; rw [values_depth_l1]; exact tot_some _
    | cons x post ih2 => intro n k h; rw [values_depth_l1]; exact tot_bind (h x (by simp)) fun r _ => ih2 _ _ fun y hy => h y (by simp [hy])
  exact key _ _ _ ih
theorem size_some : ∀ v : TValue, Tot (values_size v) := by
  refine TValue.ind fun v ih => ?_
  rw [values_size]
  have key : ∀ (post : List TValue) (n : Int) (k : Nat), (∀ x ∈ post, Tot (values_size x)) → Tot (values_size_l1 n v k post) := by
    intro post
    induction post with
    | nil => intro n k _; rw [values_size_l1]; exact tot_some _
    | cons x post ih2 => intro n k h; rw [values_size_l1]; exact tot_bind (h x (by simp)) fun r _ => ih2 _ _ fun y hy => h y (by simp [hy])
  exact key _ _ _ ih
theorem noSet_some (s : TExcSet) : Tot (values_noSet s) := by rw [values_noSet]; exact tot_some _
theorem formed_some : ∀ v : TValue, Tot (values_formed v) := by
  refine TValue.ind fun v ih => ?_
  have key : ∀ (post : List TValue) (k : Nat), (∀ x ∈ post, Tot (values_formed x)) → Tot (values_formed_l2 v k post) := by
    intro post
    induction post with
    | nil => intro k _; rw [values_formed_l2]; exact tot_bind (con_some _) fun _ _ => tot_some _
    | cons x post ih2 => intro k h; rw [values_formed_l2]; exact tot_bind (h x (by simp)) fun r _ => tot_if (fun _ => tot_some _) fun _ => ih2 _ fun y hy => h y (by simp [hy])
  have k1 : ∀ t, Tot (values_formed_k1 v t) := by
    intro t
    rw [values_formed_k1]
    exact tot_if (fun _ => tot_some _) fun _ => tot_if (fun _ => tot_some _) fun _ => tot_if (fun _ => tot_bind (validSet_some _) fun _ _ => tot_some _) fun _ => tot_if (fun _ => key _ _ ih) fun _ => tot_some _
  rw [values_formed]
  exact tot_bind (tot_if (fun _ => tot_some _) fun _ => tot_bind (tot_if (fun _ => tot_bind (noSet_some _) fun _ _ => tot_some _) fun _ => tot_some _) fun _ _ => tot_some _) fun _ _ => tot_if (fun _ => tot_some _) fun _ => tot_if (fun _ => k1 _) fun _ => tot_if (fun _ => k1 _) fun _ => k1 _
theorem check_some (v : TValue) : Tot (values_Check v) := by
  rw [values_Check]
  exact tot_bind (depth_some v) fun _ _ => tot_if (fun _ => tot_some _) fun _ => tot_bind (size_some v) fun _ _ => tot_if (fun _ => tot_some _) fun _ => tot_bind (formed_some v) fun _ _ => tot_if (fun _ => tot_some _) fun _ => tot_some _
/-! ### a formed value refines itself -/
theorem formed_refl : ∀ v : TValue, values_formed v = some true → refB v v = true := by
  refine TValue.ind fun v ih h => ?_
  have key : ∀ (post : List TValue) (k : Nat), (∀ x ∈ post, values_formed x = some true → refB x x = true) → values_formed_l2 v k post = some true → refL post post = true := by
    intro post
    induction post with
    | nil => intro k _ _; rw [refL]
    | cons x post ih2 =>
      intro k hp h
      rw [values_formed_l2] at h
      obtain ⟨r, hr, h⟩ := bind_some h
      cases r
      · simp at h
      · rw [refL, hp x (by simp) hr, Bool.true_and]
        exact ih2 (k + 1) (fun y hy => hp y (by simp [hy])) (by simpa using h)
  have k1 : ∀ t, (t = true → v.fOp = 1 ∨ v.fOp = 4 ∨ v.fOp = 6) → values_formed_k1 v t = some true → refB v v = true := by
    intro t ht h
    rw [values_formed_k1] at h
    rw [refB_eq]
    by_cases h6 : ((v.fOp == 6) || ((v.fOp == 5) && v.fSet.fAll)) = true
    · rw [if_pos h6]
    rw [if_neg h6, if_neg (by simp)]
    by_cases h1 : (v.fOp == 1) = true
    · rw [if_pos h1]; simp
    rw [if_neg h1]
    by_cases h2 : (v.fOp == 2) = true
    · rw [if_pos h2]; simp
    rw [if_neg h2]
    by_cases h4 : (v.fOp == 4) = true
    · rw [if_pos h4]
    rw [if_neg h4]
    by_cases h5 : (v.fOp == 5) = true
    · rw [if_pos h5]; exact withinB_refl _
    rw [if_neg h5]
    by_cases h3 : (v.fOp == 3) = true
    · rw [if_pos h3]
      have htf : t = false := by
        cases t
        · rfl
        · rcases ht rfl with e | e | e
          · simp [e] at h1
          · simp [e] at h4
          · simp [e] at h6
      rw [htf, if_neg (by simp), if_neg h2, if_neg h5, if_pos h3] at h
      rw [key _ _ ih h]; simp
    · exfalso
      have htf : t = false := by
        cases t
        · rfl
        · rcases ht rfl with e | e | e
          · simp [e] at h1
          · simp [e] at h4
          · simp [e] at h6
      rw [htf, if_neg (by simp), if_neg h2, if_neg h5, if_neg h3] at h
      cases h
  rw [values_formed] at h
  obtain ⟨c, hc, h⟩ := bind_some h
  cases c
  · rw [if_neg (by simp)] at h
    by_cases h1 : (v.fOp == 1) = true
    · rw [if_pos h1] at h; exact k1 _ (fun _ => .inl (by simpa using h1)) h
    rw [if_neg h1] at h
    by_cases h4 : (v.fOp == 4) = true
    · rw [if_pos h4] at h; exact k1 _ (fun _ => .inr (.inl (by simpa using h4))) h
    rw [if_neg h4] at h
    exact k1 _ (fun e => .inr (.inr (by simpa using e))) h
  · rw [if_pos rfl] at h; cases h
theorem check_refl (v : TValue) (h : values_Check v = some 0) : refB v v = true := by
  rw [values_Check] at h
  obtain ⟨d, hd, h⟩ := bind_some h
  by_cases h1 : decide (d > 1000) = true
  · rw [if_pos h1] at h; cases h
  rw [if_neg h1] at h
  obtain ⟨s, hs, h⟩ := bind_some h
  by_cases h2 : decide (s > 60000) = true
  · rw [if_pos h2] at h; cases h
  rw [if_neg h2] at h
  obtain ⟨f, hf, h⟩ := bind_some h
  cases f
  · simp at h
  · exact formed_refl v hf
end Go.Proofs.YtafniolcakiljaaDoor

set_option linter.unusedVariables false
set_option linter.unusedSimpArgs false
set_option maxRecDepth 100000
set_option maxHeartbeats 4000000
namespace Go.Proofs.YtafniolcakiljaaDoor
open Go Go.Am
/-! ### decimal numerals -/
def isDig (b : UInt8) : Prop := 48 ≤ b.toNat ∧ b.toNat ≤ 57
theorem dig_nat {k : Nat} (h : k < 10) : (UInt8.ofNat (48 + k)).toNat = 48 + k := by
  rw [UInt8.toNat_ofNat']; omega
theorem dec_dig : ∀ (n u : Nat), u ≤ n → ∀ b ∈ Lib.decDigits u, isDig b := by
  intro n
  induction n with
  | zero =>
    intro u hu b hb
    rw [Lib.decDigits, dif_pos (by omega)] at hb
    simp only [List.mem_singleton] at hb
    subst hb
    unfold isDig; rw [dig_nat (by omega)]; omega
  | succ n ih =>
    intro u hu b hb
    rw [Lib.decDigits] at hb
    split at hb
    · simp only [List.mem_singleton] at hb
      subst hb
      unfold isDig; rw [dig_nat (by omega)]; omega
    · rw [List.mem_append] at hb
      rcases hb with hb | hb
      · exact ih (u / 10) (by omega) b hb
      · simp only [List.mem_singleton] at hb
        subst hb
        unfold isDig; rw [dig_nat (by omega)]; omega
theorem dec_len : ∀ (k u : Nat), u < 10 ^ (k + 1) → (Lib.decDigits u).length ≤ k + 1
  | 0, u, h => by rw [Lib.decDigits, dif_pos (by simpa using h)]; simp
  | k + 1, u, h => by
    rw [Lib.decDigits]
    split
    · simp
    · rw [List.length_append, List.length_singleton]
      have := dec_len k (u / 10) (by rw [Nat.pow_succ] at h; omega)
      omega
theorem dec_ne (u : Nat) : Lib.decDigits u ≠ [] := by
  rw [Lib.decDigits]; split <;> simp
theorem parse_dec : ∀ (n u : Nat), u ≤ n → u < 18446744073709551616 → ∀ r : List UInt8, Lib.parseUint10 0 (Lib.decDigits u ++ r) = Lib.parseUint10 u r := by
  intro n
  induction n with
  | zero =>
    intro u hu _ r
    obtain rfl : u = 0 := by omega
    rw [Lib.decDigits, dif_pos (by omega)]
    simp only [List.cons_append, List.nil_append, Lib.parseUint10]
    rfl
  | succ n ih =>
    intro u hu hl r
    rw [Lib.decDigits]
    split
    · rename_i h
      simp only [List.cons_append, List.nil_append, Lib.parseUint10, dig_nat h]
      rw [if_pos (by omega), if_neg (by omega), if_neg (by omega)]
      congr 1; omega
    · rename_i h
      rw [List.append_assoc, ih (u / 10) (by omega) (by omega)]
      simp only [List.cons_append, List.nil_append, Lib.parseUint10, dig_nat (show u % 10 < 10 by omega)]
      rw [if_pos (by omega), if_neg (by omega), if_neg (by omega)]
      congr 1; omega
theorem mag_dec {u : Nat} (h : u < 18446744073709551616) : Lib.parseMag (Lib.decDigits u) = .ok u := by
  unfold Lib.parseMag
  rw [if_neg (dec_ne u)]
  have := parse_dec u u (Nat.le_refl _) h []
  rw [List.append_nil] at this
  rw [this]; rfl
def inI64 (n : Int) : Prop := -9223372036854775808 ≤ n ∧ n ≤ 9223372036854775807
theorem itoa_cons (n : Int) : ∃ b r, Lib.itoa n = b :: r ∧ (b.toNat = 45 ∨ isDig b) ∧ (∀ x ∈ r, isDig x) := by
  unfold Lib.itoa
  split
  · exact ⟨45, _, rfl, .inl rfl, fun x hx => dec_dig _ _ (Nat.le_refl _) x hx⟩
  · cases h : Lib.decDigits n.toNat with
    | nil => exact absurd h (dec_ne _)
    | cons b r =>
      have hd := dec_dig _ n.toNat (Nat.le_refl _)
      rw [h] at hd
      exact ⟨b, r, rfl, .inr (hd b (by simp)), fun x hx => hd x (by simp [hx])⟩
theorem atoi_itoa {n : Int} (h : inI64 n) : Lib.atoiAll (Lib.itoa n) = .ok n := by
  unfold inI64 at h
  unfold Lib.itoa
  by_cases hn : n < 0
  · rw [if_pos hn]
    simp only [Lib.atoiAll]
    rw [if_pos (by decide), mag_dec (by omega)]
    simp only
    rw [if_neg (by simp), if_neg (by simp; omega), if_pos (by decide)]
    congr 1; omega
  · rw [if_neg hn]
    cases hd : Lib.decDigits n.toNat with
    | nil => exact absurd hd (dec_ne _)
    | cons b r =>
      have hb : isDig b := dec_dig _ n.toNat (Nat.le_refl _) b (by rw [hd]; simp)
      unfold isDig at hb
      have hm := mag_dec (u := n.toNat) (by omega)
      rw [hd] at hm
      simp only [Lib.atoiAll]
      rw [if_neg (by omega), hm]
      simp only
      rw [if_neg (by omega), if_neg (by omega), if_neg (by omega)]
      congr 1; omega
theorem itoa_len {n : Int} (h : inI64 n) : (Lib.itoa n).length ≤ 21 := by
  unfold inI64 at h
  unfold Lib.itoa
  have hp : (9223372036854775808 : Nat) < 10 ^ (19 + 1) := by decide
  split
  · have := dec_len 19 n.natAbs (by omega); simp; omega
  · have := dec_len 19 n.toNat (by omega); omega
theorem itoaB_list (n : Int) : (itoaB n).toList = Lib.itoa n := by rw [toList_size]; rfl
theorem itoaB_data (n : Int) : (itoaB n).data.toList = Lib.itoa n := rfl
theorem atoiR_itoa {n : Int} (h : inI64 n) : atoiR (itoaB n) = (n, false) := by
  unfold atoiR; rw [itoaB_data, atoi_itoa h]
theorem atoi_range {l : List UInt8} {v : Int} (h : Lib.atoiAll l = .ok v) : inI64 v := by
  unfold inI64
  cases l with
  | nil => cases h
  | cons c r =>
    simp only [Lib.atoiAll] at h
    split at h
    · cases h
    · cases h
    · rename_i u hu
      split at h
      · cases h
      · split at h
        · cases h
        · injection h with h
          split at h <;> omega
theorem atoiR_range (s : ByteArray) : inI64 (atoiR s).1 := by
  unfold atoiR
  split
  · rename_i h; exact atoi_range h
  · unfold inI64 Lib.atoiSat; simp only; split <;> omega
  · unfold inI64; simp only; omega
end Go.Proofs.YtafniolcakiljaaDoor

set_option linter.unusedVariables false
set_option linter.unusedSimpArgs false
set_option maxRecDepth 100000
set_option maxHeartbeats 4000000
namespace Go.Proofs.YtafniolcakiljaaDoor
open Go Go.Am
/-! ### words joined and split -/
abbrev spB : ByteArray := ByteArray.mk #[32]
theorem bytes_ext {a b : ByteArray} (h : a.data.toList = b.data.toList) : a = b := by
  obtain ⟨⟨x⟩⟩ := a
  obtain ⟨⟨y⟩⟩ := b
  simp only at h
  subst h; rfl
def noSp (w : ByteArray) : Prop := ∀ b ∈ w.data.toList, b ≠ 32
theorem idx_hit : ∀ (l r : List UInt8), (∀ b ∈ l, b ≠ 32) → Lib.indexByte (l ++ 32 :: r) 32 = (l.length : Int)
  | [], r, _ => by simp [Lib.indexByte]
  | b :: l, r, h => by
    have hb : (b == 32) = false := by rw [beq_eq_false_iff_ne]; exact h b (by simp)
    have ih := idx_hit l r fun x hx => h x (by simp [hx])
    rw [List.cons_append, Lib.indexByte, hb, ih]
    have : (((l.length : Nat) : Int) == -1) = false := by rw [beq_eq_false_iff_ne]; omega
    rw [this]
    simp
theorem idx_miss : ∀ (l : List UInt8), (∀ b ∈ l, b ≠ 32) → Lib.indexByte l 32 = -1
  | [], _ => rfl
  | b :: l, h => by
    have hb : (b == 32) = false := by rw [beq_eq_false_iff_ne]; exact h b (by simp)
    rw [Lib.indexByte, hb, idx_miss l fun x hx => h x (by simp [hx])]
    rfl
theorem indexB_sp (s : ByteArray) : Lib.indexB s spB = Lib.indexByte s.data.toList 32 := Lib.index_one s.data.toList 32
theorem join_data (w : ByteArray) (ws : List ByteArray) : (joinB (w :: ws) spB).data.toList = w.data.toList ++ Lib.joinTail [32] (ws.map (·.data.toList)) := by
  show (Lib.join _ _) = _
  rw [List.map_cons]; exact Lib.join_cons _ _ _
theorem join_data2 (w x : ByteArray) (ws : List ByteArray) : (joinB (w :: x :: ws) spB).data.toList = w.data.toList ++ 32 :: (joinB (x :: ws) spB).data.toList := by
  rw [join_data, join_data]
  simp [Lib.joinTail]
theorem split_join : ∀ (ws : List ByteArray) (w : ByteArray), (∀ x ∈ w :: ws, noSp x) → ∀ k, Lib.countB (joinB (w :: ws) spB) spB = k → Lib.splitB spB 0 k (joinB (w :: ws) spB) = w :: ws
  | [], w, h, k, hk => by
    have e : joinB [w] spB = w := bytes_ext (by rw [join_data]; simp [Lib.joinTail])
    rw [e]
    exact Lib.splitB_miss spB 0 k w (by rw [indexB_sp]; exact idx_miss _ (h w (by simp)))
  | x :: ws, w, h, k, hk => by
    have hd := join_data2 w x ws
    have hix : Lib.indexB (joinB (w :: x :: ws) spB) spB = ((w.data.toList.length : Nat) : Int) := by
      rw [indexB_sp, hd]; exact idx_hit _ _ (h w (by simp))
    have hlen : (joinB (w :: x :: ws) spB).size = w.data.toList.length + 1 + (joinB (x :: ws) spB).size := by
      have := congrArg List.length hd
      rw [List.length_append, List.length_cons] at this
      simp only [Array.length_toList] at this ⊢
      show (joinB (w :: x :: ws) spB).data.size = _
      rw [this]
      show _ = w.data.size + 1 + (joinB (x :: ws) spB).data.size
      omega
    have e1 : (joinB (w :: x :: ws) spB).extract (w.data.toList.length + spB.size) (joinB (w :: x :: ws) spB).size = joinB (x :: ws) spB := by
      refine bytes_ext ?_
      rw [ByteArray.data_extract, Array.toList_extract, hd]
      show List.extract _ (w.data.toList.length + 1) _ = _
      rw [List.extract_eq_take_drop, List.drop_append, List.drop_eq_nil_of_le (by omega), List.nil_append]
      rw [show w.data.toList.length + 1 - w.data.toList.length = 1 by omega]
      simp only [List.drop_succ_cons, List.drop_zero]
      rw [List.take_of_length_le]
      rw [hlen]
      simp only [Array.length_toList]
      show (joinB (x :: ws) spB).size ≤ _
      omega
    have e2 : (joinB (w :: x :: ws) spB).extract 0 (w.data.toList.length + 0) = w := by
      refine bytes_ext ?_
      rw [ByteArray.data_extract, Array.toList_extract, hd, List.extract_eq_take_drop]
      simp
    have hc := Lib.countB_hit (joinB (w :: x :: ws) spB) spB w.data.toList.length (by decide) hix
    rw [e1] at hc
    obtain ⟨k', rfl⟩ : ∃ k', k = k' + 1 := ⟨k - 1, by omega⟩
    rw [Lib.splitB_hit spB 0 k' _ w.data.toList.length hix, e1, e2, split_join ws x (fun y hy => h y (by simp [hy])) k' (by omega)]
theorem join_size : ∀ (ws : List ByteArray) (w : ByteArray), (Lib.join ((w :: ws).map (·.data.toList)) [32]).length + 1 = ((w :: ws).map fun x => x.size + 1).sum
  | [], w => by simp [Lib.join_one]
  | x :: ws, w => by
    have h1 := congrArg List.length (join_data2 w x ws)
    have ih := join_size ws x
    rw [List.length_append, List.length_cons] at h1
    have e : ∀ l : List ByteArray, (joinB l spB).data.toList = Lib.join (l.map (·.data.toList)) [32] := fun l => rfl
    rw [e, e] at h1
    rw [h1, List.map_cons (f := fun x : ByteArray => x.size + 1), List.sum_cons, ← ih]
    have : w.data.toList.length = w.size := by simp
    omega
/-- However it is split: no more bytes than there were. -/
theorem split_size : ∀ (k : Nat) (s : ByteArray), ((Lib.splitB spB 0 k s).map fun x => x.size).sum ≤ s.size
  | 0, s => by simp [Lib.splitB]
  | k + 1, s => by
    rcases Lib.indexB_cases s spB with h | ⟨i, h, hr⟩
    · rw [Lib.splitB_miss spB 0 (k + 1) s h]; simp
    · rw [Lib.splitB_hit spB 0 k s i h, List.map_cons, List.sum_cons]
      have h1 := split_size k (s.extract (i + spB.size) s.size)
      rw [ByteArray.size_extract] at h1
      rw [ByteArray.size_extract]
      have : spB.size = 1 := rfl
      omega
end Go.Proofs.YtafniolcakiljaaDoor

set_option linter.unusedVariables false
set_option linter.unusedSimpArgs false
set_option maxRecDepth 100000
set_option maxHeartbeats 4000000
namespace Go.Proofs.YtafniolcakiljaaDoor
open Go Go.Am
/-! ### the words of a value -/
def flatE (l : List TExc) : List ByteArray := l.flatMap fun e => [e.fCon, itoaB e.fN]
mutual
def wordsB : TValue → List ByteArray
  | .mk op name n kids set =>
    if (op == 1) = true then [itoaB n]
    else if (op == 2) = true then [(ByteArray.mk #[35]) ++ itoaB n]
    else if (op == 4) = true then [(ByteArray.mk #[60, 102, 117, 110, 62])]
    else if (op == 6) = true then [(ByteArray.mk #[63])]
    else if (op == 5) = true then (if set.fAll = true then [(ByteArray.mk #[33, 42])] else [(ByteArray.mk #[33, 123])] ++ flatE set.fList ++ [(ByteArray.mk #[125])])
    else if (((kids.length : Nat) : Int) == 0) = true then [name]
    else [(ByteArray.mk #[40]), name] ++ wordsL kids ++ [(ByteArray.mk #[41])]
def wordsL : List TValue → List ByteArray
  | [] => []
  | x :: xs => wordsB x ++ wordsL xs
end
theorem wordsB_eq (v : TValue) : wordsB v =
    if (v.fOp == 1) = true then [itoaB v.fN]
    else if (v.fOp == 2) = true then [(ByteArray.mk #[35]) ++ itoaB v.fN]
    else if (v.fOp == 4) = true then [(ByteArray.mk #[60, 102, 117, 110, 62])]
    else if (v.fOp == 6) = true then [(ByteArray.mk #[63])]
    else if (v.fOp == 5) = true then (if v.fSet.fAll = true then [(ByteArray.mk #[33, 42])] else [(ByteArray.mk #[33, 123])] ++ flatE v.fSet.fList ++ [(ByteArray.mk #[125])])
    else if (((v.fKids.length : Nat) : Int) == 0) = true then [v.fName]
    else [(ByteArray.mk #[40]), v.fName] ++ wordsL v.fKids ++ [(ByteArray.mk #[41])] := by cases v; rw [wordsB]; rfl
def excVol (l : List TExc) : Nat := (l.map fun e => e.fCon.size + 1).sum
mutual
def TValue.vol : TValue → Nat
  | .mk _ name _ kids set => 1 + name.size + excVol set.fList + TValue.volL kids
def TValue.volL : List TValue → Nat
  | [] => 0
  | x :: xs => x.vol + TValue.volL xs
end
theorem vol_eq (v : TValue) : v.vol = 1 + v.fName.size + excVol v.fSet.fList + TValue.volL v.fKids := by cases v; rw [TValue.vol]; rfl
mutual
def TValue.rng : TValue → Prop
  | .mk _ _ n kids set => inI64 n ∧ (∀ e ∈ set.fList, inI64 e.fN) ∧ TValue.rngL kids
def TValue.rngL : List TValue → Prop
  | [] => True
  | x :: xs => x.rng ∧ TValue.rngL xs
end
theorem rngL_iff : ∀ l : List TValue, TValue.rngL l ↔ ∀ x ∈ l, x.rng
  | [] => by simp [TValue.rngL]
  | x :: xs => by simp [TValue.rngL, rngL_iff xs]
theorem rng_eq (v : TValue) : v.rng ↔ inI64 v.fN ∧ (∀ e ∈ v.fSet.fList, inI64 e.fN) ∧ ∀ x ∈ v.fKids, x.rng := by
  cases v; rw [TValue.rng, rngL_iff]; rfl
def wsum (l : List ByteArray) : Nat := (l.map fun x => x.size + 1).sum
theorem wsum_app (a b : List ByteArray) : wsum (a ++ b) = wsum a + wsum b := by simp [wsum]
theorem wsum_cons (a : ByteArray) (b : List ByteArray) : wsum (a :: b) = a.size + 1 + wsum b := by simp [wsum]
theorem itoaB_size {n : Int} (h : inI64 n) : (itoaB n).size ≤ 21 := itoa_len h
theorem flat_vol : ∀ l : List TExc, (∀ e ∈ l, inI64 e.fN) → (flatE l).length ≤ 2 * excVol l ∧ wsum (flatE l) ≤ 30 * excVol l
  | [], _ => by simp [flatE, excVol, wsum]
  | e :: l, h => by
    obtain ⟨h1, h2⟩ := flat_vol l fun x hx => h x (by simp [hx])
    have h3 := itoaB_size (h e (by simp))
    have e1 : flatE (e :: l) = [e.fCon, itoaB e.fN] ++ flatE l := rfl
    have e2 : excVol (e :: l) = e.fCon.size + 1 + excVol l := by simp [excVol]
    rw [e1, e2, List.length_append, wsum_app, wsum_cons, wsum_cons]
    have e3 : wsum [] = 0 := rfl
    rw [e3]
    simp only [List.length_cons, List.length_nil]
    omega
theorem words_vol : ∀ v : TValue, v.rng → (wordsB v).length ≤ 3 * v.vol ∧ wsum (wordsB v) ≤ 30 * v.vol := by
  refine TValue.ind fun v ih hr => ?_
  obtain ⟨h1, h2, h3⟩ := (rng_eq v).1 hr
  have key : ∀ l : List TValue, (∀ x ∈ l, x ∈ v.fKids) → (wordsL l).length ≤ 3 * TValue.volL l ∧ wsum (wordsL l) ≤ 30 * TValue.volL l := by
    intro l
    induction l with
    | nil => intro _; simp [wordsL, TValue.volL, wsum]
    | cons x l ih2 =>
      intro hl
      have h4 := ih2 fun y hy => hl y (by simp [hy])
      have h5 := ih x (hl x (by simp)) (h3 x (hl x (by simp)))
      rw [wordsL, TValue.volL, List.length_append, wsum_app]
      omega
  have hk := key v.fKids fun x hx => hx
  have hf := flat_vol v.fSet.fList h2
  have hn := itoaB_size h1
  have e0 : wsum [] = 0 := rfl
  have e1 : (ByteArray.mk #[35] ++ itoaB v.fN).size = 1 + (itoaB v.fN).size := ByteArray.size_append
  rw [vol_eq, wordsB_eq]
  split
  · rw [wsum_cons, e0]; simp only [List.length_cons, List.length_nil]; omega
  split
  · rw [wsum_cons, e0, e1]; simp only [List.length_cons, List.length_nil]; omega
  split
  · rw [wsum_cons, e0]; simp only [List.length_cons, List.length_nil, show (ByteArray.mk #[60, 102, 117, 110, 62]).size = 5 from rfl]; omega
  split
  · rw [wsum_cons, e0]; simp only [List.length_cons, List.length_nil, show (ByteArray.mk #[63]).size = 1 from rfl]; omega
  split
  · split
    · rw [wsum_cons, e0]; simp only [List.length_cons, List.length_nil, show (ByteArray.mk #[33, 42]).size = 2 from rfl]; omega
    · rw [wsum_app, wsum_app, wsum_cons, wsum_cons, e0, List.length_append, List.length_append]
      simp only [List.length_cons, List.length_nil, show (ByteArray.mk #[33, 123]).size = 2 from rfl, show (ByteArray.mk #[125]).size = 1 from rfl]; omega
  split
  · rw [wsum_cons, e0]; simp only [List.length_cons, List.length_nil]; omega
  · rw [wsum_app, wsum_app, wsum_cons, wsum_cons, wsum_cons, e0, List.length_append, List.length_append]
    simp only [List.length_cons, List.length_nil, show (ByteArray.mk #[40]).size = 1 from rfl, show (ByteArray.mk #[41]).size = 1 from rfl]; omega
theorem itoa_some {n : Int} (h : inI64 n) : strconv_Itoa n = some (itoaB n) := by
  unfold strconv_Itoa; rw [gtrue _ (show -9223372036854775808 ≤ n ∧ n ≤ 9223372036854775807 from h)]
theorem wl1 (v : TValue) : ∀ (post : List TExc) (acc : List ByteArray) (k : Nat), (∀ e ∈ post, inI64 e.fN) → acc.length + (flatE post).length + 1 ≤ 8388608 → values_words_l1 acc v k post = some (acc ++ flatE post ++ [ByteArray.mk #[125]])
  | [], acc, k, _, h => by
    rw [values_words_l1, gtrue _ (by simp only [List.length_cons, List.length_nil]; omega)]
    simp [flatE]
  | e :: post, acc, k, hr, h => by
    have e1 : flatE (e :: post) = [e.fCon, itoaB e.fN] ++ flatE post := rfl
    rw [e1, List.length_append] at h
    simp only [List.length_cons, List.length_nil] at h
    rw [values_words_l1, itoa_some (hr e (by simp)), obind, gtrue _ (by simp only [List.length_cons, List.length_nil]; omega)]
    rw [wl1 v post _ (k + 1) (fun x hx => hr x (by simp [hx])) (by rw [List.length_append]; simp only [List.length_cons, List.length_nil]; omega), e1]
    simp
theorem words_ok : ∀ v : TValue, v.rng → ∀ acc : List ByteArray, acc.length + (wordsB v).length ≤ 8388608 → values_words acc v = some (acc ++ wordsB v) := by
  refine TValue.ind fun v ih hr acc hl => ?_
  obtain ⟨h1, h2, h3⟩ := (rng_eq v).1 hr
  have key : ∀ (post : List TValue) (acc : List ByteArray) (k : Nat), (∀ x ∈ post, x ∈ v.fKids) → acc.length + (wordsL post).length + 1 ≤ 8388608 → values_words_l2 acc v k post = some (acc ++ wordsL post ++ [ByteArray.mk #[41]]) := by
    intro post
    induction post with
    | nil =>
      intro acc k _ h
      rw [values_words_l2, gtrue _ (by simp only [List.length_cons, List.length_nil]; omega)]
      simp [wordsL]
    | cons x post ih2 =>
      intro acc k hm h
      rw [wordsL, List.length_append] at h
      rw [values_words_l2, ih x (hm x (by simp)) (h3 x (hm x (by simp))) acc (by omega), obind, ih2 _ (k + 1) (fun y hy => hm y (by simp [hy])) (by rw [List.length_append]; omega), wordsL]
      simp
  rw [wordsB_eq] at hl ⊢
  rw [values_words]
  by_cases c1 : (v.fOp == 1) = true
  · rw [if_pos c1] at hl ⊢; rw [if_pos c1, itoa_some h1, obind, gtrue _ (by simp only [List.length_cons, List.length_nil] at hl ⊢; omega)]
  rw [if_neg c1] at hl ⊢; rw [if_neg c1]
  by_cases c2 : (v.fOp == 2) = true
  · rw [if_pos c2] at hl ⊢
    have hs := itoaB_size h1
    rw [if_pos c2, itoa_some h1, obind, gtrue _ (by simp only [show (ByteArray.mk #[35]).size = 1 from rfl, show IntKind.i64.max = 9223372036854775807 from rfl]; omega), gtrue _ (by simp only [List.length_cons, List.length_nil] at hl ⊢; omega)]
  rw [if_neg c2] at hl ⊢; rw [if_neg c2]
  by_cases c4 : (v.fOp == 4) = true
  · rw [if_pos c4] at hl ⊢; rw [if_pos c4, gtrue _ (by simp only [List.length_cons, List.length_nil] at hl ⊢; omega)]
  rw [if_neg c4] at hl ⊢; rw [if_neg c4]
  by_cases c6 : (v.fOp == 6) = true
  · rw [if_pos c6] at hl ⊢; rw [if_pos c6, gtrue _ (by simp only [List.length_cons, List.length_nil] at hl ⊢; omega)]
  rw [if_neg c6] at hl ⊢; rw [if_neg c6]
  by_cases c5 : (v.fOp == 5) = true
  · rw [if_pos c5] at hl ⊢; rw [if_pos c5]
    by_cases ca : v.fSet.fAll = true
    · rw [if_pos ca] at hl ⊢; rw [if_pos ca, gtrue _ (by simp only [List.length_cons, List.length_nil] at hl ⊢; omega)]
    rw [if_neg ca] at hl ⊢; rw [if_neg ca]
    rw [List.length_append, List.length_append] at hl
    simp only [List.length_cons, List.length_nil] at hl
    rw [gtrue _ (by simp only [List.length_cons, List.length_nil]; omega), wl1 v _ _ 0 h2 (by rw [List.length_append]; simp only [List.length_cons, List.length_nil]; omega)]
    simp
  rw [if_neg c5] at hl ⊢; rw [if_neg c5]
  by_cases ck : (((v.fKids.length : Nat) : Int) == 0) = true
  · rw [if_pos ck] at hl ⊢; rw [if_pos ck, gtrue _ (by simp only [List.length_cons, List.length_nil] at hl ⊢; omega)]
  rw [if_neg ck] at hl ⊢; rw [if_neg ck]
  rw [List.length_append, List.length_append] at hl
  simp only [List.length_cons, List.length_nil] at hl
  rw [gtrue _ (by simp only [List.length_cons, List.length_nil]; omega), key v.fKids _ 0 (fun x hx => hx) (by rw [List.length_append]; simp only [List.length_cons, List.length_nil]; omega)]
  simp
theorem words_ne (v : TValue) : ∃ w ws, wordsB v = w :: ws := by
  rw [wordsB_eq]
  split
  · exact ⟨_, _, rfl⟩
  split
  · exact ⟨_, _, rfl⟩
  split
  · exact ⟨_, _, rfl⟩
  split
  · exact ⟨_, _, rfl⟩
  split
  · split
    · exact ⟨_, _, rfl⟩
    · exact ⟨_, _, rfl⟩
  split
  · exact ⟨_, _, rfl⟩
  · exact ⟨_, _, rfl⟩
def textB (v : TValue) : ByteArray := joinB (wordsB v) spB
/-- The text of a value that is accepted. -/
theorem print_ok (v : TValue) (hr : v.rng) (hv : v.vol ≤ 2097152) (hc : values_Check v = some 0) : values_Print v = some (textB v) := by
  obtain ⟨h1, h2⟩ := words_vol v hr
  obtain ⟨w, ws, hw⟩ := words_ne v
  have h3 := join_size ws w
  rw [← hw] at h3
  have h4 : wsum (wordsB v) = ((wordsB v).map fun x => x.size + 1).sum := rfl
  rw [values_Print, hc, obind, if_neg (by simp), words_ok v hr [] (by simp only [List.length_nil]; omega), List.nil_append, obind, strings_Join, if_pos]
  · rfl
  · refine ⟨by omega, ?_⟩
    show (Lib.join _ [32]).length ≤ _
    omega
theorem print_bad (v : TValue) {c : Int} (hc : values_Check v = some c) (h0 : c ≠ 0) : values_Print v = some (ByteArray.mk #[]) := by
  rw [values_Print, hc, obind, if_pos (by simpa using h0)]
end Go.Proofs.YtafniolcakiljaaDoor

set_option linter.unusedVariables false
set_option linter.unusedSimpArgs false
set_option maxRecDepth 100000
set_option maxHeartbeats 4000000
namespace Go.Proofs.YtafniolcakiljaaDoor
open Go Go.Am
/-! ### what is formed -/
theorem nil_bytes {s : ByteArray} (h : (s.toList == (ByteArray.mk #[]).toList) = true) : s = ByteArray.mk #[] := by
  rw [beq_iff_eq, toList_size, toList_size] at h
  exact bytes_ext h
theorem btI_list (s : ByteArray) (k : Nat) : btI s ((k : Nat) : Int) = s.data.toList[k]? := by
  unfold btI
  rw [if_pos (Int.natCast_nonneg k), Int.toNat_natCast]
  rcases Nat.lt_or_ge k s.size with h | h
  · rw [getElem?_pos s k h, List.getElem?_eq_getElem (by simpa using h)]; rfl
  · rw [getElem?_neg s k (by omega), List.getElem?_eq_none (by simpa using h)]
structure ConW (s : ByteArray) : Prop where
  bytes : ∀ b ∈ s.data.toList, 33 ≤ b.toNat ∧ b.toNat ≤ 126
  size : s.size ≤ 129
  par : s.toList ≠ [40]
  head : ∃ c r, s.data.toList = c :: r ∧ ((65 ≤ c.toNat ∧ c.toNat ≤ 90) ∨ c.toNat = 58 ∨ c.toNat = 91 ∨ c.toNat = 40)
theorem conl_bytes (s : ByteArray) : ∀ (d k : Nat), s.size - k = d → values_constructor_l1 s k = some true → (∀ i b, k ≤ i → s.data.toList[i]? = some b → 33 ≤ b.toNat ∧ b.toNat ≤ 126) ∧
    ∃ c, s.data.toList[0]? = some c ∧ ((65 ≤ c.toNat ∧ c.toNat ≤ 90) ∨ c.toNat = 58 ∨ c.toNat = 91 ∨ c.toNat = 40) := by
  have h0 : ∀ i : Nat, s.size ≤ i → s.data.toList[i]? = none := fun i hi => List.getElem?_eq_none (by simpa using hi)
  intro d
  induction d with
  | zero =>
    intro k hk h
    rw [values_constructor_l1, if_neg (by simp; omega)] at h
    obtain ⟨y, hy, h⟩ := bind_some h
    rw [show (0 : Int) = ((0 : Nat) : Int) from rfl, btI_list] at hy
    refine ⟨fun i b hi hb => (by rw [h0 i (by omega)] at hb; cases hb), y, hy, ?_⟩
    have e : btI s 0 = some y := by rw [show (0 : Int) = ((0 : Nat) : Int) from rfl, btI_list]; exact hy
    simp only [e, obind] at h
    by_cases h1 : (decide (((y.toNat : Nat) : Int) ≥ 65)) = true
    · by_cases h2 : (decide (((y.toNat : Nat) : Int) ≤ 90)) = true
      · left; simp at h1 h2; omega
      · rw [if_pos h1] at h
        have h2' : decide (((y.toNat : Nat) : Int) ≤ 90) = false := Bool.eq_false_iff.2 h2
        simp only [h2', obind, Bool.false_eq_true, if_false] at h
        by_cases h3 : (((y.toNat : Nat) : Int) == 58) = true
        · right; left; simp at h3; omega
        · have h3' := Bool.eq_false_iff.2 h3
          simp only [h3', Bool.false_eq_true, if_false] at h
          by_cases h4 : (((y.toNat : Nat) : Int) == 91) = true
          · right; right; left; simp at h4; omega
          · have h4' := Bool.eq_false_iff.2 h4
            simp only [h4', Bool.false_eq_true, if_false, Option.some.injEq] at h
            right; right; right; simp at h; omega
    · have h1' := Bool.eq_false_iff.2 h1
      simp only [h1', obind, Bool.false_eq_true, if_false] at h
      by_cases h3 : (((y.toNat : Nat) : Int) == 58) = true
      · right; left; simp at h3; omega
      · have h3' := Bool.eq_false_iff.2 h3
        simp only [h3', Bool.false_eq_true, if_false] at h
        by_cases h4 : (((y.toNat : Nat) : Int) == 91) = true
        · right; right; left; simp at h4; omega
        · have h4' := Bool.eq_false_iff.2 h4
          simp only [h4', Bool.false_eq_true, if_false, Option.some.injEq] at h
          right; right; right; simp at h; omega
  | succ d ih =>
    intro k hk h
    have hlt : k < s.size := by omega
    rw [values_constructor_l1, if_pos (by simpa using hlt)] at h
    obtain ⟨y, hy, h⟩ := bind_some h
    have hy2 := hy
    rw [btI_list] at hy2
    simp only [hy, obind] at h
    by_cases h1 : (decide (((y.toNat : Nat) : Int) < 33)) = true
    · simp only [h1, if_true, obind] at h; cases h
    have h1' := Bool.eq_false_iff.2 h1
    by_cases h2 : (decide (((y.toNat : Nat) : Int) > 126)) = true
    · simp only [h1', h2, if_true, Bool.false_eq_true, if_false, obind] at h; cases h
    have h2' := Bool.eq_false_iff.2 h2
    simp only [h1', h2', Bool.false_eq_true, if_false, obind] at h
    obtain ⟨_, h⟩ := guard_some h
    obtain ⟨h3, h4⟩ := ih (k + 1) (by omega) h
    refine ⟨fun i b hi hb => ?_, h4⟩
    rcases Nat.eq_or_lt_of_le hi with rfl | hi
    · rw [hy2] at hb; injection hb with hb; subst hb
      simp at h1 h2; omega
    · exact h3 i b hi hb
theorem con_w {s : ByteArray} (h : values_constructor s = some true) : ConW s := by
  rw [values_constructor] at h
  split at h
  · cases h
  · rename_i hc
    simp only [Bool.or_eq_true, decide_eq_true_eq, beq_iff_eq, not_or] at hc
    obtain ⟨h1, c, h2, h3⟩ := conl_bytes s _ 0 rfl h
    refine ⟨fun b hb => ?_, by omega, ?_, c, ?_⟩
    · obtain ⟨i, hi⟩ := List.getElem?_of_mem hb
      exact h1 i b (Nat.zero_le _) hi
    · have := hc.1.2
      rw [show (ByteArray.mk #[40]).toList = [40] by rw [toList_size]] at this
      exact this
    · cases hl : s.data.toList with
      | nil => rw [hl] at h2; cases h2
      | cons x r =>
        rw [hl] at h2
        simp only [List.getElem?_cons_zero, Option.some.injEq] at h2
        subst h2
        exact ⟨r, rfl, h3⟩
theorem con_noSp {s : ByteArray} (h : ConW s) : noSp s := fun b hb e => by
  have := h.bytes b hb
  subst e
  simp at this
theorem valid_desc {s : TExcSet} (h : values_validSet s = some true) : (s = ⟨true, []⟩) ∨ (s.fAll = false ∧ ∀ e ∈ s.fList, ConW e.fCon) := by
  rw [values_validSet] at h
  by_cases ha : s.fAll = true
  · rw [if_pos ha] at h
    simp only [Option.some.injEq, beq_iff_eq] at h
    left
    obtain ⟨a, l⟩ := s
    simp only at ha h
    subst ha
    have : l = [] := List.eq_nil_of_length_eq_zero (by omega)
    subst this; rfl
  · rw [if_neg ha] at h
    split at h
    · cases h
    right
    refine ⟨Bool.eq_false_iff.2 ha, ?_⟩
    have key : ∀ (post : List TExc) (k : Nat), values_validSet_l1 s k post = some true → ∀ e ∈ post, ConW e.fCon := by
      intro post
      induction post with
      | nil => intro k _ e he; simp at he
      | cons x post ih =>
        intro k h e he
        rw [values_validSet_l1] at h
        obtain ⟨c, hc⟩ := con_some x.fCon
        rw [hc, obind] at h
        cases c with
        | false => simp [obind] at h
        | true =>
          simp only [Bool.not_true, Bool.false_eq_true, if_false] at h
          obtain ⟨c2, hc2, h⟩ := bind_some h
          cases c2 with
          | true => simp at h
          | false =>
            simp only [Bool.false_eq_true, if_false] at h
            rcases List.mem_cons.1 he with rfl | he
            · exact con_w hc
            · exact ih (k + 1) h e he
    exact key s.fList 0 h
inductive FormD : TValue → Prop
  | int (n : Int) : FormD (.mk 1 (ByteArray.mk #[]) n [] ⟨false, []⟩)
  | char (n : Int) : FormD (.mk 2 (ByteArray.mk #[]) n [] ⟨false, []⟩)
  | con (name : ByteArray) (kids : List TValue) (h : ConW name) (hk : ∀ x ∈ kids, values_formed x = some true) : FormD (.mk 3 name 0 kids ⟨false, []⟩)
  | fn : FormD (.mk 4 (ByteArray.mk #[]) 0 [] ⟨false, []⟩)
  | all : FormD (.mk 5 (ByteArray.mk #[]) 0 [] ⟨true, []⟩)
  | bad (l : List TExc) (h : ∀ e ∈ l, ConW e.fCon) : FormD (.mk 5 (ByteArray.mk #[]) 0 [] ⟨false, l⟩)
  | cut : FormD (.mk 6 (ByteArray.mk #[]) 0 [] ⟨false, []⟩)
theorem formed_facts (v : TValue) (h : values_formed v = some true) : (v.fOp ≠ 5 → v.fSet.fAll = false ∧ v.fSet.fList = []) ∧ (v.fOp ≠ 3 → v.fName = ByteArray.mk #[] ∧ v.fKids = []) ∧ (v.fOp ≠ 1 → v.fOp ≠ 2 → v.fN = 0) ∧
    (if (v.fOp == 1) = true then values_formed_k1 v (v.fOp == 1) else if (v.fOp == 4) = true then values_formed_k1 v (v.fOp == 4) else values_formed_k1 v (v.fOp == 6)) = some true := by
  rw [values_formed, values_noSet] at h
  obtain ⟨c10, h10, h⟩ := bind_some h
  cases c10 with
  | true => simp at h
  | false =>
  simp only [Bool.false_eq_true, if_false] at h
  split at h10
  · cases h10
  rename_i hneg
  have hcond := Bool.eq_false_iff.2 hneg
  simp only [obind, Option.some.injEq] at h10
  refine ⟨fun h5 => ?_, fun h3 => ?_, fun h1 h2 => ?_, h⟩
  · rw [if_pos (by simpa using h5)] at h10
    simp only [obind, Option.some.injEq, Bool.not_eq_false', Bool.and_eq_true, Bool.not_eq_true', beq_iff_eq] at h10
    exact ⟨h10.1, List.eq_nil_of_length_eq_zero (by omega)⟩
  · have e3 : (v.fOp == 3) = false := by rw [beq_eq_false_iff_ne]; exact h3
    simp only [e3, Bool.not_false, Bool.true_and, Bool.or_eq_false_iff, Bool.not_eq_false', decide_eq_false_iff_not] at hcond
    exact ⟨nil_bytes hcond.1.1, List.eq_nil_of_length_eq_zero (by have := hcond.1.2; omega)⟩
  · have e1 : (v.fOp == 1) = false := by rw [beq_eq_false_iff_ne]; exact h1
    have e2 : (v.fOp == 2) = false := by rw [beq_eq_false_iff_ne]; exact h2
    simp only [e1, e2, Bool.or_false, Bool.not_false, Bool.true_and, Bool.or_eq_false_iff, bne_eq_false_iff_eq] at hcond
    exact hcond.2
theorem formed_desc (v : TValue) (h : values_formed v = some true) : FormD v := by
  obtain ⟨hset, hk, hn, h⟩ := formed_facts v h
  obtain ⟨op, name, n, kids, all, l⟩ := v
  simp only [TValue.fOp, TValue.fName, TValue.fN, TValue.fKids, TValue.fSet] at hset hk hn h
  by_cases o1 : op = 1
  · subst o1
    obtain ⟨rfl, rfl⟩ := hk (by decide)
    obtain ⟨rfl, rfl⟩ := hset (by decide)
    exact .int n
  by_cases o2 : op = 2
  · subst o2
    obtain ⟨rfl, rfl⟩ := hk (by decide)
    obtain ⟨rfl, rfl⟩ := hset (by decide)
    exact .char n
  obtain rfl := hn o1 o2
  by_cases o4 : op = 4
  · subst o4
    obtain ⟨rfl, rfl⟩ := hk (by decide)
    obtain ⟨rfl, rfl⟩ := hset (by decide)
    exact .fn
  by_cases o6 : op = 6
  · subst o6
    obtain ⟨rfl, rfl⟩ := hk (by decide)
    obtain ⟨rfl, rfl⟩ := hset (by decide)
    exact .cut
  have e1 : (op == 1) = false := by rw [beq_eq_false_iff_ne]; exact o1
  have e2 : (op == 2) = false := by rw [beq_eq_false_iff_ne]; exact o2
  have e4 : (op == 4) = false := by rw [beq_eq_false_iff_ne]; exact o4
  have e6 : (op == 6) = false := by rw [beq_eq_false_iff_ne]; exact o6
  simp only [e1, e4, e6, Bool.false_eq_true, if_false] at h
  rw [values_formed_k1] at h
  simp only [TValue.fOp, TValue.fName, TValue.fN, TValue.fKids, TValue.fSet, e2, Bool.false_eq_true, if_false] at h
  by_cases o5 : op = 5
  · subst o5
    obtain ⟨rfl, rfl⟩ := hk (by decide)
    simp only [beq_self_eq_true, if_true] at h
    obtain ⟨b, hb, h⟩ := bind_some h
    obtain rfl := some_eq h
    rcases valid_desc hb with h1 | ⟨h1, h2⟩
    · injection h1 with h1 h2; subst h1 h2; exact .all
    · simp only at h1; subst h1; exact .bad l h2
  have e5 : (op == 5) = false := by rw [beq_eq_false_iff_ne]; exact o5
  simp only [e5, Bool.false_eq_true, if_false] at h
  by_cases o3 : op = 3
  · subst o3
    obtain ⟨rfl, rfl⟩ := hset (by decide)
    simp only [beq_self_eq_true, if_true] at h
    have key : ∀ (w : TValue) (post : List TValue) (k : Nat), values_formed_l2 w k post = some true → values_constructor w.fName = some true ∧ ∀ x ∈ post, values_formed x = some true := by
      intro w post
      induction post with
      | nil =>
        intro k h
        rw [values_formed_l2] at h
        obtain ⟨b, hb, h⟩ := bind_some h
        obtain rfl := some_eq h
        exact ⟨hb, fun x hx => by simp at hx⟩
      | cons x post ih =>
        intro k h
        rw [values_formed_l2] at h
        obtain ⟨b, hb, h⟩ := bind_some h
        cases b with
        | false => simp at h
        | true =>
          obtain ⟨h1, h2⟩ := ih (k + 1) (by simpa using h)
          exact ⟨h1, fun y hy => by rcases List.mem_cons.1 hy with rfl | hy; exact hb; exact h2 y hy⟩
    obtain ⟨h1, h2⟩ := key _ _ _ h
    exact .con name kids (con_w h1) h2
  · have e3 : (op == 3) = false := by rw [beq_eq_false_iff_ne]; exact o3
    simp only [e3, Bool.false_eq_true, if_false] at h
    cases h
end Go.Proofs.YtafniolcakiljaaDoor

set_option linter.unusedVariables false
set_option linter.unusedSimpArgs false
set_option maxRecDepth 100000
set_option maxHeartbeats 4000000
namespace Go.Proofs.YtafniolcakiljaaDoor
open Go Go.Am
/-! ### the reader -/
abbrev rd (W : List ByteArray) (k : Nat) (b : Bool) : Tvalues_reader := Tvalues_reader.mk W ((k : Nat) : Int) b
theorem next_at {W : List ByteArray} {k : Nat} {w : ByteArray} (h : W[k]? = some w) (hW : W.length ≤ 8388608) (b : Bool) : values_reader_next (rd W k b) = some (w, rd W (k + 1) b) := by
  have hk : k < W.length := (List.getElem?_eq_some_iff.1 h).1
  have e1 : IntKind.i64.wrap (((k : Nat) : Int) + 1) = ((k + 1 : Nat) : Int) := by rw [i64_small (by omega) (by omega)]; omega
  have e2 : IntKind.i64.wrap (((k + 1 : Nat) : Int) - 1) = ((k : Nat) : Int) := by rw [i64_small (by omega) (by omega)]; omega
  have e3 : ixI W ((k : Nat) : Int) = some w := by unfold ixI; rw [if_pos (Int.natCast_nonneg k), Int.toNat_natCast]; exact h
  rw [values_reader_next, if_neg (by simp; omega)]
  simp only [e1, e2, e3, obind]
theorem next_end {W : List ByteArray} {k : Nat} (h : W.length ≤ k) (b : Bool) : values_reader_next (rd W k b) = some (ByteArray.mk #[], rd W k true) := by
  rw [values_reader_next, if_pos (by simp; omega)]
theorem num_ok (r : Tvalues_reader) {s : ByteArray} (hs : s.size ≤ 281474976710656) : values_reader_number r s = some ((atoiR s).1, if (atoiR s).2 = true then Tvalues_reader.mk r.fwords r.fat true else r) := by
  rw [values_reader_number, strconv_Atoi, gtrue _ hs]
  simp only [obind]
  split
  · rfl
  · rfl
theorem num_itoa (r : Tvalues_reader) {n : Int} (h : inI64 n) : values_reader_number r (itoaB n) = some (n, r) := by
  have := itoaB_size h
  rw [num_ok r (by omega), atoiR_itoa h]; rfl
theorem hd_ne {s t : ByteArray} {c x : UInt8} {r l : List UInt8} (h : s.data.toList = c :: r) (k : t.data.toList = x :: l) (hne : c.toNat ≠ x.toNat) : (s.toList == t.toList) = false := by
  rw [beq_eq_false_iff_ne, toList_size, toList_size, h, k]
  intro e
  injection e with e _
  exact hne (by rw [e])
theorem hd_nil {s : ByteArray} {c : UInt8} {r : List UInt8} (h : s.data.toList = c :: r) : (s.toList == (ByteArray.mk #[]).toList) = false := by
  rw [beq_eq_false_iff_ne, toList_size, toList_size, h]
  intro e; cases e
mutual
def TValue.dep : TValue → Nat
  | .mk _ _ _ kids _ => TValue.depL kids + 1
def TValue.depL : List TValue → Nat
  | [] => 0
  | x :: xs => max x.dep (TValue.depL xs)
end
theorem dep_eq (v : TValue) : v.dep = TValue.depL v.fKids + 1 := by cases v; rw [TValue.dep]; rfl
theorem depL_mem : ∀ {l : List TValue} {x : TValue}, x ∈ l → x.dep ≤ TValue.depL l
  | y :: l, x, h => by
    rw [TValue.depL]
    rcases List.mem_cons.1 h with rfl | h
    · omega
    · have := depL_mem h; omega
theorem dep_vol : ∀ v : TValue, v.dep ≤ v.vol := by
  refine TValue.ind fun v ih => ?_
  have key : ∀ l : List TValue, (∀ x ∈ l, x.dep ≤ x.vol) → TValue.depL l ≤ TValue.volL l := by
    intro l
    induction l with
    | nil => intro _; simp [TValue.depL, TValue.volL]
    | cons x l ih2 =>
      intro h
      rw [TValue.depL, TValue.volL]
      have := h x (by simp)
      have := ih2 fun y hy => h y (by simp [hy])
      omega
  have := key _ ih
  rw [dep_eq, vol_eq]; omega
theorem depth_dep : ∀ v : TValue, v.vol ≤ 8388608 → values_depth v = some ((v.dep : Nat) : Int) := by
  refine TValue.ind fun v ih hv => ?_
  have hd := dep_vol v
  rw [dep_eq] at hd
  rw [vol_eq] at hv
  have key : ∀ (post : List TValue) (n k : Nat), (∀ x ∈ post, values_depth x = some ((x.dep : Nat) : Int)) → max n (TValue.depL post) ≤ 8388608 → values_depth_l1 ((n : Nat) : Int) v k post = some (((max n (TValue.depL post) + 1 : Nat)) : Int) := by
    intro post
    induction post with
    | nil =>
      intro n k _ h
      rw [values_depth_l1]
      rw [TValue.depL] at h ⊢
      rw [i64_small (by omega) (by omega)]
      congr 1; omega
    | cons x post ih2 =>
      intro n k hx h
      rw [TValue.depL] at h ⊢
      rw [values_depth_l1, hx x (by simp), obind]
      have e : (if ((x.dep : Nat) : Int) > ((n : Nat) : Int) then ((x.dep : Nat) : Int) else ((n : Nat) : Int)) = ((max n x.dep : Nat) : Int) := by split <;> omega
      rw [e, ih2 (max n x.dep) (k + 1) (fun y hy => hx y (by simp [hy])) (by omega)]
      congr 2; omega
  rw [values_depth, dep_eq]
  have hm : ∀ l : List TValue, TValue.volL l ≤ 8388608 → ∀ x ∈ l, x.vol ≤ 8388608 := by
    intro l
    induction l with
    | nil => intro _ x hx; simp at hx
    | cons y l ih3 =>
      intro h x hx
      rw [TValue.volL] at h
      rcases List.mem_cons.1 hx with rfl | hx
      · omega
      · exact ih3 (by omega) x hx
  have hd2 := vol_eq v
  have := key v.fKids 0 0 (fun x hx => ih x hx (hm _ (by omega) x hx)) (by rw [Nat.zero_max]; omega)
  rw [Nat.zero_max] at this
  exact this
theorem rset_ok (W : List ByteArray) (hW : W.length ≤ 8388608) : ∀ (l acc : List TExc) (pre post : List ByteArray), W = pre ++ flatE l ++ (ByteArray.mk #[125]) :: post → (∀ e ∈ l, ConW e.fCon) → (∀ e ∈ l, inI64 e.fN) → acc.length + l.length ≤ 8388608 →
    values_reader_set_l2 acc (rd W pre.length false) = some (⟨false, acc ++ l⟩, rd W (pre.length + (flatE l).length + 1) false)
  | [], acc, pre, post, h, _, _, _ => by
    have hw : W[pre.length]? = some (ByteArray.mk #[125]) := by rw [h]; simp [flatE]
    rw [values_reader_set_l2, if_pos (show (!(rd W pre.length false).fbad) = true from rfl), next_at hw hW, obind, if_pos (by simp), values_reader_set_k1]
    simp [flatE]
  | e :: l, acc, pre, post, h, hc, hr, hl => by
    have e1 : flatE (e :: l) = [e.fCon, itoaB e.fN] ++ flatE l := rfl
    rw [e1] at h
    have hw : W[pre.length]? = some e.fCon := by rw [h]; simp
    have hw2 : W[pre.length + 1]? = some (itoaB e.fN) := by
      rw [h, List.append_assoc, List.getElem?_append_right (by omega)]
      simp
    obtain ⟨c, r, hcr, hcc⟩ := (hc e (by simp)).head
    have hne : (e.fCon.toList == (ByteArray.mk #[125]).toList) = false := hd_ne hcr rfl (by show c.toNat ≠ 125; omega)
    rw [List.length_cons] at hl
    rw [values_reader_set_l2, if_pos (show (!(rd W pre.length false).fbad) = true from rfl), next_at hw hW, obind]
    simp only [hne, Bool.false_eq_true, if_false]
    rw [next_at hw2 hW, obind, num_itoa _ (hr e (by simp)), obind, gtrue _ (by simp only [List.length_cons, List.length_nil]; omega)]
    have := rset_ok W hW l (acc ++ [e]) (pre ++ [e.fCon, itoaB e.fN]) post (by rw [h]; simp) (fun x hx => hc x (by simp [hx])) (fun x hx => hr x (by simp [hx])) (by rw [List.length_append]; simp only [List.length_cons, List.length_nil]; omega)
    rw [List.length_append] at this
    simp only [List.length_cons, List.length_nil, Nat.zero_add] at this
    rw [this, e1]
    simp only [List.length_append, List.length_cons, List.length_nil, List.append_assoc, List.cons_append, List.nil_append, Nat.zero_add]
    congr 3
    omega
/-- The words that begin a value. -/
structure HeadW (w : ByteArray) (c : UInt8) : Prop where
  at_ : ∃ r, w.data.toList = c :: r
  ne : c.toNat ≠ 41
theorem head_w {v : TValue} (h : FormD v) : ∃ w ws c, wordsB v = w :: ws ∧ HeadW w c := by
  cases h with
  | int n =>
    obtain ⟨b, r, h1, h2, _⟩ := itoa_cons n
    exact ⟨_, _, b, by rw [wordsB_eq]; rfl, ⟨r, h1⟩, by unfold isDig at h2; omega⟩
  | char n => exact ⟨_, _, 35, by rw [wordsB_eq]; rfl, ⟨(itoaB n).data.toList, by rw [ByteArray.data_append]; simp; rfl⟩, by decide⟩
  | con name kids hn hk =>
    obtain ⟨c, r, h1, h2⟩ := hn.head
    rw [wordsB_eq]
    simp only [TValue.fOp, TValue.fName, TValue.fN, TValue.fKids, TValue.fSet]
    by_cases hl : (((kids.length : Nat) : Int) == 0) = true
    · exact ⟨name, [], c, by simp [hl], ⟨r, h1⟩, by omega⟩
    · exact ⟨ByteArray.mk #[40], _, 40, by simp only [Bool.eq_false_iff.2 hl]; rfl, ⟨[], rfl⟩, by decide⟩
  | fn => exact ⟨_, _, 60, by rw [wordsB_eq]; rfl, ⟨_, rfl⟩, by decide⟩
  | all => exact ⟨_, _, 33, by rw [wordsB_eq]; rfl, ⟨_, rfl⟩, by decide⟩
  | bad l hl => exact ⟨_, _, 33, by rw [wordsB_eq]; rfl, ⟨_, rfl⟩, by decide⟩
  | cut => exact ⟨_, _, 63, by rw [wordsB_eq]; rfl, ⟨_, rfl⟩, by decide⟩
end Go.Proofs.YtafniolcakiljaaDoor

set_option linter.unusedVariables false
set_option linter.unusedSimpArgs false
set_option maxRecDepth 100000
set_option maxHeartbeats 4000000
namespace Go.Proofs.YtafniolcakiljaaDoor
open Go Go.Am
/-! ### the reader reads a value's words -/
theorem lit_toList (l : List UInt8) : (ByteArray.mk l.toArray).toList = l := by rw [toList_size]
theorem val_of_con {c : UInt8} : ((UInt8.toNat c : Nat) : Int) = ((UInt8.toNat c : Nat) : Int) := rfl
/-- A value of one word that is no sign of its own. -/
theorem value_rest (W : List ByteArray) (hW : W.length ≤ 8388608) {k : Nat} {w : ByteArray} {c : UInt8} {r : List UInt8} (h : W[k]? = some w) (hw : w.data.toList = c :: r) (d : Int) (hd : d ≤ 1000)
    (n1 : c.toNat ≠ 60) (n2 : c.toNat ≠ 63) (n3 : c.toNat ≠ 33) (n4 : w.toList ≠ [40]) :
    values_reader_value (rd W k false) d = (if (((c.toNat : Nat) : Int) == 35) = true then
      (slS w 1 ((w.size : Nat) : Int)) >>= fun z128 => values_reader_number (rd W (k + 1) false) z128 >>= fun r129 =>
      some (TValue.mk 2 (ByteArray.mk #[]) r129.1 ([] : List TValue) (TExcSet.mk false ([] : List TExc)), r129.2)
      else if (c.toNat = 45 ∨ (48 ≤ c.toNat ∧ c.toNat ≤ 57)) then
      values_reader_number (rd W (k + 1) false) w >>= fun r145 => some (TValue.mk 1 (ByteArray.mk #[]) r145.1 ([] : List TValue) (TExcSet.mk false ([] : List TExc)), r145.2)
      else some (TValue.mk 3 w 0 ([] : List TValue) (TExcSet.mk false ([] : List TExc)), rd W (k + 1) false)) := by
  have e1 : (w.toList == (ByteArray.mk #[60, 102, 117, 110, 62]).toList) = false := hd_ne hw rfl n1
  have e2 : (w.toList == (ByteArray.mk #[63]).toList) = false := hd_ne hw rfl n2
  have e3 : (w.toList == (ByteArray.mk #[33, 42]).toList) = false := hd_ne hw rfl n3
  have e4 : (w.toList == (ByteArray.mk #[33, 123]).toList) = false := hd_ne hw rfl n3
  have e5 : (w.toList == (ByteArray.mk #[40]).toList) = false := by rw [beq_eq_false_iff_ne, toList_size (ByteArray.mk #[40])]; exact n4
  have e6 : btI w 0 = some c := by rw [show (0 : Int) = ((0 : Nat) : Int) from rfl, btI_list, hw]; rfl
  have e0 := hd_nil hw
  have e7 : decide (d > 1000) = false := by simp; omega
  rw [values_reader_value, next_at h hW]
  simp only [obind, e0, e1, e2, e3, e4, e5, e6, e7, Bool.or_false, Bool.false_eq_true, if_false]
  by_cases h1 : (((c.toNat : Nat) : Int) == 35) = true
  · simp only [h1, if_true]
  · simp only [Bool.eq_false_iff.2 h1, Bool.false_eq_true, if_false]
    by_cases h2 : (((c.toNat : Nat) : Int) == 45) = true
    · have h2' : c.toNat = 45 := by simp at h2; omega
      simp only [h2, if_true, obind]
      rw [if_pos (.inl h2')]
    · have h2' : c.toNat ≠ 45 := by simp at h2; omega
      simp only [Bool.eq_false_iff.2 h2, Bool.false_eq_true, if_false]
      by_cases h3 : (decide (((c.toNat : Nat) : Int) ≥ 48)) = true
      · simp only [h3, if_true, obind]
        have h3' : 48 ≤ c.toNat := by simp at h3; omega
        by_cases h4 : (decide (((c.toNat : Nat) : Int) ≤ 57)) = true
        · have h4' : c.toNat ≤ 57 := by simp at h4; omega
          simp only [h4, if_true]
          rw [if_pos (.inr ⟨h3', h4'⟩)]
        · have h4' : ¬ c.toNat ≤ 57 := by simp at h4; omega
          simp only [Bool.eq_false_iff.2 h4, Bool.false_eq_true, if_false]
          rw [if_neg (by omega)]
      · have h3' : ¬ 48 ≤ c.toNat := by simp at h3; omega
        simp only [Bool.eq_false_iff.2 h3, Bool.false_eq_true, if_false, obind]
        rw [if_neg (by omega)]
theorem slS_tail (a : UInt8) (s : ByteArray) : slS ((ByteArray.mk #[a]) ++ s) 1 ((((ByteArray.mk #[a]) ++ s).size : Nat) : Int) = some s := by
  have hs : ((ByteArray.mk #[a]) ++ s).size = 1 + s.size := ByteArray.size_append
  unfold slS
  rw [if_pos (by omega)]
  congr 1
  refine bytes_ext ?_
  rw [ByteArray.data_extract, Array.toList_extract, ByteArray.data_append, Array.toList_append, List.extract_eq_take_drop]
  have e : (((((ByteArray.mk #[a]) ++ s).size : Nat) : Int)).toNat = 1 + s.size := by rw [hs]; omega
  rw [e]
  show List.take (1 + s.size - 1) (List.drop 1 ([a] ++ s.data.toList)) = _
  simp only [List.cons_append, List.nil_append, List.drop_succ_cons, List.drop_zero]
  rw [List.take_of_length_le]
  simp only [Array.length_toList]
  show s.size ≤ _
  omega
theorem read_ok (W : List ByteArray) (hW : W.length ≤ 8388608) : ∀ v : TValue, values_formed v = some true → v.rng → v.vol ≤ 2097152 → ∀ (d : Nat) (pre post : List ByteArray), W = pre ++ wordsB v ++ post → d + v.dep ≤ 1001 →
    values_reader_value (rd W pre.length false) ((d : Nat) : Int) = some (v, rd W (pre.length + (wordsB v).length) false) := by
  refine TValue.ind fun v ih hf hr hv d pre post hw hd => ?_
  have hfd := formed_desc v hf
  have hdep := dep_eq v
  cases hfd with
  | int n =>
    obtain ⟨h1, _⟩ := (rng_eq _).1 hr
    replace h1 : inI64 n := h1
    have ew : wordsB (TValue.mk 1 (ByteArray.mk #[]) n [] ⟨false, []⟩) = [itoaB n] := by rw [wordsB_eq]; rfl
    rw [ew] at hw ⊢
    obtain ⟨b, r, hb, hbb, _⟩ := itoa_cons n
    unfold isDig at hbb
    rw [value_rest W hW (w := itoaB n) (by rw [hw]; simp) hb _ (by omega) (by omega) (by omega) (by omega) (by rw [itoaB_list, hb]; intro e; injection e with e _; rw [e] at hbb; revert hbb; decide)]
    rw [if_neg (by simp; omega), if_pos (by omega), num_itoa _ h1]
    rfl
  | char n =>
    obtain ⟨h1, _⟩ := (rng_eq _).1 hr
    replace h1 : inI64 n := h1
    have ew : wordsB (TValue.mk 2 (ByteArray.mk #[]) n [] ⟨false, []⟩) = [(ByteArray.mk #[35]) ++ itoaB n] := by rw [wordsB_eq]; rfl
    rw [ew] at hw ⊢
    have hb : ((ByteArray.mk #[35]) ++ itoaB n).data.toList = 35 :: (itoaB n).data.toList := by rw [ByteArray.data_append]; simp
    rw [value_rest W hW (w := (ByteArray.mk #[35]) ++ itoaB n) (by rw [hw]; simp) hb _ (by omega) (by decide) (by decide) (by decide) (by rw [toList_size, hb]; intro e; injection e with e _; cases e)]
    rw [if_pos (by decide), slS_tail, obind, num_itoa _ h1]
    rfl
  | con name kids hn hk =>
    obtain ⟨c, r, hc, hcc⟩ := hn.head
    by_cases hl : (((kids.length : Nat) : Int) == 0) = true
    · have hkn : kids = [] := List.eq_nil_of_length_eq_zero (by rw [beq_iff_eq] at hl; omega)
      subst hkn
      have ew : wordsB (TValue.mk 3 name 0 [] ⟨false, []⟩) = [name] := by rw [wordsB_eq]; rfl
      rw [ew] at hw ⊢
      rw [value_rest W hW (w := name) (by rw [hw]; simp) hc _ (by omega) (by omega) (by omega) (by omega) hn.par]
      rw [if_neg (by simp; omega), if_neg (by omega)]
      rfl
    · have ew : wordsB (TValue.mk 3 name 0 kids ⟨false, []⟩) = [(ByteArray.mk #[40]), name] ++ wordsL kids ++ [(ByteArray.mk #[41])] := by
        rw [wordsB_eq]; simp only [TValue.fOp, TValue.fName, TValue.fN, TValue.fKids, TValue.fSet, Bool.eq_false_iff.2 hl]; rfl
      rw [ew] at hw ⊢
      obtain ⟨_, _, hrk⟩ := (rng_eq _).1 hr
      simp only [TValue.fKids] at hrk hdep
      have hvk := vol_eq (TValue.mk 3 name 0 kids ⟨false, []⟩)
      simp only [TValue.fKids] at hvk
      have hm : ∀ l : List TValue, TValue.volL l ≤ 2097152 → ∀ x ∈ l, x.vol ≤ 2097152 := by
        intro l
        induction l with
        | nil => intro _ x hx; simp at hx
        | cons y l ih3 =>
          intro h x hx
          rw [TValue.volL] at h
          rcases List.mem_cons.1 hx with rfl | hx
          · omega
          · exact ih3 (by omega) x hx
      have hwl : W.length = pre.length + (2 + (wordsL kids).length + 1) + post.length := by rw [hw]; simp only [List.length_append, List.length_cons, List.length_nil]
      have h0 : W[pre.length]? = some (ByteArray.mk #[40]) := by rw [hw]; simp
      have h1 : W[pre.length + 1]? = some name := by
        rw [hw, List.append_assoc, List.getElem?_append_right (by omega)]; simp
      have key : ∀ (q : List TValue) (acc : List TValue) (pre' : List ByteArray), kids = acc ++ q → W = pre' ++ wordsL q ++ (ByteArray.mk #[41]) :: post →
          values_reader_value_l1 ((d : Nat) : Int) (name, rd W (pre.length + 2) false) acc (rd W pre'.length false) = some (TValue.mk 3 name 0 kids ⟨false, []⟩, rd W (pre'.length + (wordsL q).length + 1) false) := by
        intro q
        induction q with
        | nil =>
          intro acc pre' hq hw'
          have ha : W[pre'.length]? = some (ByteArray.mk #[41]) := by rw [hw']; simp [wordsL]
          have hlt : pre'.length < W.length := (List.getElem?_eq_some_iff.1 ha).1
          have ei : ixI W ((pre'.length : Nat) : Int) = some (ByteArray.mk #[41]) := by unfold ixI; rw [if_pos (Int.natCast_nonneg _), Int.toNat_natCast]; exact ha
          have ec : ((!(rd W pre'.length false).fbad) && (decide ((rd W pre'.length false).fat < (((rd W pre'.length false).fwords.length : Nat) : Int)))) = true := by simp; omega
          rw [values_reader_value_l1, if_pos ec]
          simp only [ei, obind, beq_self_eq_true, Bool.not_true, Bool.false_eq_true, if_false]
          rw [next_at ha hW, obind]
          rw [List.append_nil] at hq
          subst hq
          simp [wordsL]
        | cons x q ihq =>
          intro acc pre' hq hw'
          have hx : x ∈ kids := by rw [hq]; simp
          obtain ⟨fw, fws, fc, hfw, ⟨fr, hfr⟩, hfn⟩ := head_w (formed_desc x (hk x hx))
          rw [wordsL] at hw'
          have ha : W[pre'.length]? = some fw := by rw [hw', hfw]; simp
          have hlt : pre'.length < W.length := (List.getElem?_eq_some_iff.1 ha).1
          have ei : ixI W ((pre'.length : Nat) : Int) = some fw := by unfold ixI; rw [if_pos (Int.natCast_nonneg _), Int.toNat_natCast]; exact ha
          have ec : ((!(rd W pre'.length false).fbad) && (decide ((rd W pre'.length false).fat < (((rd W pre'.length false).fwords.length : Nat) : Int)))) = true := by simp; omega
          have en : (fw.toList == (ByteArray.mk #[41]).toList) = false := hd_ne hfr rfl hfn
          have hdx : x.dep ≤ TValue.depL kids := depL_mem hx
          have hdd : IntKind.i64.wrap (((d : Nat) : Int) + 1) = ((d + 1 : Nat) : Int) := by rw [i64_small (by omega) (by omega)]; omega
          have hrd := ih x hx (hk x hx) (hrk x hx) (hm kids (by omega) x hx) (d + 1) pre' (wordsL q ++ (ByteArray.mk #[41]) :: post) (by rw [hw']; simp) (by omega)
          have hkl := congrArg List.length hq
          have hwx := (words_vol x (hrk x hx)).1
          have hkv : kids.length ≤ TValue.volL kids := by
            have : ∀ l : List TValue, l.length ≤ TValue.volL l := by
              intro l
              induction l with
              | nil => simp [TValue.volL]
              | cons y l ih4 => rw [TValue.volL, List.length_cons, vol_eq]; omega
            exact this kids
          rw [List.length_append, List.length_cons] at hkl
          rw [values_reader_value_l1, if_pos ec]
          simp only [ei, obind, en, Bool.not_false, if_true, hdd]
          rw [hrd, obind, gtrue _ (by simp only [List.length_cons, List.length_nil]; omega)]
          have := ihq (acc ++ [x]) (pre' ++ wordsB x) (by rw [hq]; simp) (by rw [hw']; simp)
          rw [List.length_append] at this
          rw [this, wordsL, List.length_append]
          congr 3; omega
      have e0 : ((ByteArray.mk #[40]).toList == (ByteArray.mk #[]).toList) = false := hd_nil (c := 40) (r := []) rfl
      have e1 : ((ByteArray.mk #[40]).toList == (ByteArray.mk #[60, 102, 117, 110, 62]).toList) = false := hd_ne (c := 40) (r := []) rfl rfl (by decide)
      have e2 : ((ByteArray.mk #[40]).toList == (ByteArray.mk #[63]).toList) = false := hd_ne (c := 40) (r := []) rfl rfl (by decide)
      have e3 : ((ByteArray.mk #[40]).toList == (ByteArray.mk #[33, 42]).toList) = false := hd_ne (c := 40) (r := []) rfl rfl (by decide)
      have e4 : ((ByteArray.mk #[40]).toList == (ByteArray.mk #[33, 123]).toList) = false := hd_ne (c := 40) (r := []) rfl rfl (by decide)
      have e7 : decide (((d : Nat) : Int) > 1000) = false := by simp; omega
      rw [values_reader_value, next_at h0 hW]
      simp only [obind, e0, e1, e2, e3, e4, e7, Bool.or_false, Bool.false_eq_true, if_false, beq_self_eq_true, if_true]
      rw [next_at h1 hW, obind]
      have := key kids [] (pre ++ [(ByteArray.mk #[40]), name]) rfl (by rw [hw]; simp)
      rw [List.length_append] at this
      simp only [List.length_cons, List.length_nil, Nat.zero_add] at this
      rw [show pre.length + 1 + 1 = pre.length + 2 by omega]
      rw [this]
      simp only [List.length_append, List.length_cons, List.length_nil]
      congr 3; omega
  | fn =>
    have ew : wordsB (TValue.mk 4 (ByteArray.mk #[]) 0 [] ⟨false, []⟩) = [(ByteArray.mk #[60, 102, 117, 110, 62])] := by rw [wordsB_eq]; rfl
    rw [ew] at hw ⊢
    have e0 : ((ByteArray.mk #[60, 102, 117, 110, 62]).toList == (ByteArray.mk #[]).toList) = false := hd_nil (c := 60) (r := [102, 117, 110, 62]) rfl
    have e7 : decide (((d : Nat) : Int) > 1000) = false := by simp; omega
    rw [values_reader_value, next_at (w := (ByteArray.mk #[60, 102, 117, 110, 62])) (by rw [hw]; simp) hW]
    simp only [obind, e0, e7, Bool.or_false, Bool.false_eq_true, if_false, beq_self_eq_true, if_true]
    rfl
  | all =>
    have ew : wordsB (TValue.mk 5 (ByteArray.mk #[]) 0 [] ⟨true, []⟩) = [(ByteArray.mk #[33, 42])] := by rw [wordsB_eq]; rfl
    rw [ew] at hw ⊢
    have e0 : ((ByteArray.mk #[33, 42]).toList == (ByteArray.mk #[]).toList) = false := hd_nil (c := 33) (r := [42]) rfl
    have e1 : ((ByteArray.mk #[33, 42]).toList == (ByteArray.mk #[60, 102, 117, 110, 62]).toList) = false := hd_ne (c := 33) (r := [42]) rfl rfl (by decide)
    have e2 : ((ByteArray.mk #[33, 42]).toList == (ByteArray.mk #[63]).toList) = false := hd_ne (c := 33) (r := [42]) rfl rfl (by decide)
    have e7 : decide (((d : Nat) : Int) > 1000) = false := by simp; omega
    rw [values_reader_value, next_at (w := (ByteArray.mk #[33, 42])) (by rw [hw]; simp) hW]
    simp only [obind, e0, e1, e2, e7, Bool.or_false, Bool.false_eq_true, if_false, beq_self_eq_true, if_true, values_All]
    rfl
  | bad l hl =>
    obtain ⟨_, h2, _⟩ := (rng_eq _).1 hr
    simp only [TValue.fSet] at h2
    have ew : wordsB (TValue.mk 5 (ByteArray.mk #[]) 0 [] ⟨false, l⟩) = [(ByteArray.mk #[33, 123])] ++ flatE l ++ [(ByteArray.mk #[125])] := by rw [wordsB_eq]; rfl
    have hvv := vol_eq (TValue.mk 5 (ByteArray.mk #[]) 0 [] ⟨false, l⟩)
    simp only [TValue.fSet] at hvv
    have hll : l.length ≤ excVol l := by
      have : ∀ l : List TExc, l.length ≤ excVol l := by
        intro l
        induction l with
        | nil => simp [excVol]
        | cons e l ih4 =>
          have : excVol (e :: l) = e.fCon.size + 1 + excVol l := by simp [excVol]
          rw [this, List.length_cons]; omega
      exact this l
    rw [ew] at hw ⊢
    have e0 : ((ByteArray.mk #[33, 123]).toList == (ByteArray.mk #[]).toList) = false := hd_nil (c := 33) (r := [123]) rfl
    have e1 : ((ByteArray.mk #[33, 123]).toList == (ByteArray.mk #[60, 102, 117, 110, 62]).toList) = false := hd_ne (c := 33) (r := [123]) rfl rfl (by decide)
    have e2 : ((ByteArray.mk #[33, 123]).toList == (ByteArray.mk #[63]).toList) = false := hd_ne (c := 33) (r := [123]) rfl rfl (by decide)
    have e3 : ((ByteArray.mk #[33, 123]).toList == (ByteArray.mk #[33, 42]).toList) = false := by rw [toList_size, toList_size]; decide
    have e7 : decide (((d : Nat) : Int) > 1000) = false := by simp; omega
    have hs := rset_ok W hW l [] (pre ++ [(ByteArray.mk #[33, 123])]) post (by rw [hw]; simp) hl h2 (by simp only [List.length_nil]; omega)
    rw [List.length_append] at hs
    simp only [List.length_cons, List.length_nil, Nat.zero_add, List.nil_append] at hs
    rw [values_reader_value, next_at (w := (ByteArray.mk #[33, 123])) (by rw [hw]; simp) hW]
    simp only [obind, e0, e1, e2, e3, e7, Bool.or_false, Bool.false_eq_true, if_false, beq_self_eq_true, if_true]
    rw [values_reader_set, hs]
    simp only [obind, List.length_append, List.length_cons, List.length_nil]
    congr 3; omega
  | cut =>
    have ew : wordsB (TValue.mk 6 (ByteArray.mk #[]) 0 [] ⟨false, []⟩) = [(ByteArray.mk #[63])] := by rw [wordsB_eq]; rfl
    rw [ew] at hw ⊢
    have e0 : ((ByteArray.mk #[63]).toList == (ByteArray.mk #[]).toList) = false := hd_nil (c := 63) (r := []) rfl
    have e1 : ((ByteArray.mk #[63]).toList == (ByteArray.mk #[60, 102, 117, 110, 62]).toList) = false := hd_ne (c := 63) (r := []) rfl rfl (by decide)
    have e7 : decide (((d : Nat) : Int) > 1000) = false := by simp; omega
    rw [values_reader_value, next_at (w := (ByteArray.mk #[63])) (by rw [hw]; simp) hW]
    simp only [obind, e0, e1, e7, Bool.or_false, Bool.false_eq_true, if_false, beq_self_eq_true, if_true]
    rfl
end Go.Proofs.YtafniolcakiljaaDoor

set_option linter.unusedVariables false
set_option linter.unusedSimpArgs false
set_option maxRecDepth 100000
set_option maxHeartbeats 4000000
namespace Go.Proofs.YtafniolcakiljaaDoor
open Go Go.Am
/-! ### the reader comes to an end, whatever the words -/
def restW (W : List ByteArray) (k : Nat) : Nat := wsum (W.drop k)
theorem rest_at {W : List ByteArray} {k : Nat} {w : ByteArray} (h : W[k]? = some w) : restW W k = w.size + 1 + restW W (k + 1) := by
  have hk : k < W.length := (List.getElem?_eq_some_iff.1 h).1
  have hw : W[k] = w := (List.getElem?_eq_some_iff.1 h).2
  unfold restW
  rw [List.drop_eq_getElem_cons hk, hw, wsum_cons]
theorem next_any (W : List ByteArray) (hW : W.length ≤ 8388608) (k : Nat) (hk : k ≤ W.length) (b : Bool) :
    (∃ w, W[k]? = some w ∧ k < W.length ∧ values_reader_next (rd W k b) = some (w, rd W (k + 1) b)) ∨ (k = W.length ∧ values_reader_next (rd W k b) = some (ByteArray.mk #[], rd W k true)) := by
  rcases Nat.lt_or_ge k W.length with h | h
  · exact .inl ⟨W[k], List.getElem?_eq_getElem h, h, next_at (List.getElem?_eq_getElem h) hW b⟩
  · exact .inr ⟨by omega, next_end h b⟩
theorem volL_app : ∀ a b : List TValue, TValue.volL (a ++ b) = TValue.volL a + TValue.volL b
  | [], b => by simp [TValue.volL]
  | x :: a, b => by rw [List.cons_append, TValue.volL, TValue.volL, volL_app a b]; omega
theorem excVol_app (a b : List TExc) : excVol (a ++ b) = excVol a + excVol b := by simp [excVol]
def ZV : TValue := TValue.mk 0 (ByteArray.mk #[]) 0 ([] : List TValue) (TExcSet.mk false ([] : List TExc))
theorem rng_flat (op : Int) (name : ByteArray) (n : Int) (s : TExcSet) (hn : inI64 n) (hs : ∀ e ∈ s.fList, inI64 e.fN) : (TValue.mk op name n [] s).rng := (rng_eq _).2 ⟨hn, hs, fun x hx => by simp [TValue.fKids] at hx⟩
theorem in0 : inI64 0 := by unfold inI64; omega
theorem num_any (W : List ByteArray) (k : Nat) (b : Bool) (s : ByteArray) (hs : s.size ≤ 281474976710656) : ∃ n b', values_reader_number (rd W k b) s = some (n, rd W k b') ∧ inI64 n ∧ (b' = false → b = false) := by
  rw [num_ok _ hs]
  by_cases h : (atoiR s).2 = true
  · rw [if_pos h]; exact ⟨_, true, rfl, atoiR_range s, fun h => by cases h⟩
  · rw [if_neg h]; exact ⟨_, b, rfl, atoiR_range s, fun h => h⟩
theorem set_any (W : List ByteArray) (hW : W.length ≤ 8388608) (hS : ∀ w ∈ W, w.size ≤ 281474976710656) : ∀ (n k : Nat), W.length - k ≤ n → k ≤ W.length → ∀ (b : Bool) (acc : List TExc), acc.length + (W.length - k) ≤ 8388608 → (∀ e ∈ acc, inI64 e.fN) →
    ∃ s k' b', values_reader_set_l2 acc (rd W k b) = some (s, rd W k' b') ∧ k ≤ k' ∧ k' ≤ W.length ∧ s.fAll = false ∧ (∀ e ∈ s.fList, inI64 e.fN) ∧ (b' = false → b = false ∧ k < k' ∧ excVol s.fList + restW W k' ≤ excVol acc + restW W k) := by
  have stop : ∀ (k : Nat), k ≤ W.length → ∀ acc : List TExc, (∀ e ∈ acc, inI64 e.fN) → ∃ s k' b', values_reader_set_l2 acc (rd W k true) = some (s, rd W k' b') ∧ k ≤ k' ∧ k' ≤ W.length ∧ s.fAll = false ∧ (∀ e ∈ s.fList, inI64 e.fN) ∧ b' = true := by
    intro k hk acc ha
    rw [values_reader_set_l2, if_neg (by simp), values_reader_set_k1]
    exact ⟨_, k, true, rfl, Nat.le_refl _, hk, rfl, ha, rfl⟩
  intro n
  induction n with
  | zero =>
    intro k hn hk b acc hl ha
    cases b with
    | true =>
      obtain ⟨s, k', b', h1, h2, h3, h4, h5, h6⟩ := stop k hk acc ha
      exact ⟨s, k', b', h1, h2, h3, h4, h5, fun h => by rw [h6] at h; cases h⟩
    | false =>
      have hend : W.length ≤ k := by omega
      obtain ⟨m, b2, hm, hr, _⟩ := num_any W k true (ByteArray.mk #[]) (by decide)
      have ne : ((ByteArray.mk #[]).toList == (ByteArray.mk #[125]).toList) = false := by rw [toList_size, toList_size]; decide
      rw [values_reader_set_l2, if_pos (show (!(rd W k false).fbad) = true from rfl), next_end hend, obind]
      simp only [ne, Bool.false_eq_true, if_false]
      rw [next_end hend, obind, hm, obind, gtrue _ (by simp only [List.length_cons, List.length_nil]; omega)]
      have hb2 : b2 = true := by
        cases b2 with
        | true => rfl
        | false => rename_i h; exact absurd (h rfl) (by decide)
      subst hb2
      obtain ⟨s, k', b', h1, h2, h3, h4, h5, h6⟩ := stop k hk (acc ++ [TExc.mk (ByteArray.mk #[]) m]) (fun e he => by
        rcases List.mem_append.1 he with he | he
        · exact ha e he
        · simp only [List.mem_singleton] at he; subst he; exact hr)
      exact ⟨s, k', b', h1, h2, h3, h4, h5, fun h => by rw [h6] at h; cases h⟩
  | succ n ih =>
    intro k hn hk b acc hl ha
    cases b with
    | true =>
      obtain ⟨s, k', b', h1, h2, h3, h4, h5, h6⟩ := stop k hk acc ha
      exact ⟨s, k', b', h1, h2, h3, h4, h5, fun h => by rw [h6] at h; cases h⟩
    | false =>
      rw [values_reader_set_l2, if_pos (show (!(rd W k false).fbad) = true from rfl)]
      rcases next_any W hW k hk false with ⟨w, hw, hlt, hnx⟩ | ⟨he, hnx⟩
      · rw [hnx, obind]
        by_cases hc : (w.toList == (ByteArray.mk #[125]).toList) = true
        · simp only [hc, if_true]
          rw [values_reader_set_k1]
          exact ⟨_, k + 1, false, rfl, by omega, by omega, rfl, ha, fun _ => ⟨by first | rfl | trivial, by omega, by have := rest_at hw; show excVol acc + _ ≤ _; omega⟩⟩
        · simp only [Bool.eq_false_iff.2 hc, Bool.false_eq_true, if_false]
          rcases next_any W hW (k + 1) (by omega) false with ⟨w2, hw2, hlt2, hnx2⟩ | ⟨he2, hnx2⟩
          · obtain ⟨m, b2, hm, hr, hb⟩ := num_any W (k + 2) false w2 (hS w2 (List.mem_of_getElem? hw2))
            rw [hnx2, obind, hm, obind, gtrue _ (by simp only [List.length_cons, List.length_nil]; omega)]
            obtain ⟨s, k', b', h1, h2, h3, h4, h5, h6⟩ := ih (k + 2) (by omega) (by omega) b2 (acc ++ [TExc.mk w m]) (by rw [List.length_append]; simp only [List.length_cons, List.length_nil]; omega) (fun e he => by
              rcases List.mem_append.1 he with he | he
              · exact ha e he
              · simp only [List.mem_singleton] at he; subst he; exact hr)
            refine ⟨s, k', b', h1, by omega, h3, h4, h5, fun h => ?_⟩
            obtain ⟨h7, h8, h9⟩ := h6 h
            have r1 := rest_at hw
            have r2 : restW W (k + 1) = w2.size + 1 + restW W (k + 2) := rest_at hw2
            rw [excVol_app] at h9
            have e1 : excVol [TExc.mk w m] = w.size + 1 := by simp [excVol]
            exact ⟨by first | rfl | trivial, by omega, by rw [e1] at h9; omega⟩
          · obtain ⟨m, b2, hm, hr, hb⟩ := num_any W (k + 1) true (ByteArray.mk #[]) (by decide)
            have hb2 : b2 = true := by
              cases b2 with
              | true => rfl
              | false => exact absurd (hb rfl) (by decide)
            subst hb2
            rw [hnx2, obind, hm, obind, gtrue _ (by simp only [List.length_cons, List.length_nil]; omega)]
            obtain ⟨s, k', b', h1, h2, h3, h4, h5, h6⟩ := stop (k + 1) (by omega) (acc ++ [TExc.mk w m]) (fun e he => by
              rcases List.mem_append.1 he with he | he
              · exact ha e he
              · simp only [List.mem_singleton] at he; subst he; exact hr)
            exact ⟨s, k', b', h1, by omega, h3, h4, h5, fun h => by rw [h6] at h; cases h⟩
      · exact (ih k (by omega) hk false acc hl ha).elim fun s ⟨k', b', h1, h2⟩ => by
          rw [values_reader_set_l2, if_pos (show (!(rd W k false).fbad) = true from rfl)] at h1
          exact ⟨s, k', b', h1, h2⟩
def VT (W : List ByteArray) (k : Nat) : Prop := ∀ (b : Bool) (d : Nat), d ≤ 1001 → ∃ v k' b', values_reader_value (rd W k b) ((d : Nat) : Int) = some (v, rd W k' b') ∧ k ≤ k' ∧ k' ≤ W.length ∧ v.rng ∧ (b' = false → b = false ∧ k < k' ∧ v.vol + restW W k' ≤ restW W k)
def LT (W : List ByteArray) (k : Nat) : Prop := ∀ (b : Bool) (d : Nat) (name : ByteArray) (r : Tvalues_reader) (acc : List TValue), d ≤ 1000 → acc.length + (W.length - k) ≤ 8388608 → (∀ x ∈ acc, x.rng) →
  ∃ v k' b', values_reader_value_l1 ((d : Nat) : Int) (name, r) acc (rd W k b) = some (v, rd W k' b') ∧ k ≤ k' ∧ k' ≤ W.length ∧ v.rng ∧ (b' = false → b = false ∧ k < k' ∧ v.vol + restW W k' ≤ 1 + name.size + TValue.volL acc + restW W k)
theorem end_loop (W : List ByteArray) (hW : W.length ≤ 8388608) (k : Nat) (hk : k ≤ W.length) (b : Bool) (name : ByteArray) (acc : List TValue) (ha : ∀ x ∈ acc, x.rng) : ∃ v k' b', (values_reader_next (rd W k b) >>= fun r121 => some (TValue.mk 3 name 0 acc (TExcSet.mk false ([] : List TExc)), r121.2)) = some (v, rd W k' b') ∧ k ≤ k' ∧ k' ≤ W.length ∧ v.rng ∧ (b' = false → b = false ∧ k < k' ∧ v.vol + restW W k' ≤ 1 + name.size + TValue.volL acc + restW W k) := by
  have hr : (TValue.mk 3 name 0 acc (TExcSet.mk false ([] : List TExc))).rng := (rng_eq _).2 ⟨in0, fun e he => by simp [TValue.fSet] at he, ha⟩
  rcases next_any W hW k hk b with ⟨w, hw, hlt, hnx⟩ | ⟨he, hnx⟩
  · rw [hnx, obind]
    refine ⟨_, k + 1, b, rfl, by omega, by omega, hr, fun h => ⟨h, by omega, ?_⟩⟩
    have := rest_at hw
    rw [vol_eq]
    simp only [TValue.fName, TValue.fSet, TValue.fKids, excVol, List.map_nil, List.sum_nil]
    omega
  · rw [hnx, obind]
    exact ⟨_, k, true, rfl, Nat.le_refl _, hk, hr, fun h => by cases h⟩
theorem loop_any (W : List ByteArray) (hW : W.length ≤ 8388608) (k : Nat) (hk : k ≤ W.length) (hv : ∀ j, k ≤ j → j ≤ W.length → VT W j) : LT W k := by
  have main : ∀ (n j : Nat), W.length - j ≤ n → k ≤ j → j ≤ W.length → LT W j := by
    intro n
    induction n with
    | zero =>
      intro j hn hkj hj b d name r acc hd hl ha
      have ec : ((!(rd W j b).fbad) && (decide ((rd W j b).fat < (((rd W j b).fwords.length : Nat) : Int)))) = false := by
        have : decide ((rd W j b).fat < (((rd W j b).fwords.length : Nat) : Int)) = false := by simp; omega
        rw [this, Bool.and_false]
      rw [values_reader_value_l1, ec]
      simp only [Bool.false_eq_true, if_false, obind]
      exact end_loop W hW j hj b name acc ha
    | succ n ih =>
      intro j hn hkj hj b d name r acc hd hl ha
      by_cases ec : ((!(rd W j b).fbad) && (decide ((rd W j b).fat < (((rd W j b).fwords.length : Nat) : Int)))) = true
      · have hlt : j < W.length := by simp at ec; omega
        have hb : b = false := by simp at ec; exact ec.1
        subst hb
        have ei : ixI W ((j : Nat) : Int) = some W[j] := by unfold ixI; rw [if_pos (Int.natCast_nonneg _), Int.toNat_natCast]; exact List.getElem?_eq_getElem hlt
        rw [values_reader_value_l1, if_pos ec]
        simp only [ei, obind]
        by_cases hp : (W[j].toList == (ByteArray.mk #[41]).toList) = true
        · simp only [hp, Bool.not_true, Bool.false_eq_true, if_false]
          obtain ⟨v, k', b', h1, h2, h3, h4, h5⟩ := end_loop W hW j hj false name acc ha
          exact ⟨v, k', b', h1, h2, h3, h4, fun h => ⟨by first | rfl | trivial, (h5 h).2⟩⟩
        · have hdd : IntKind.i64.wrap (((d : Nat) : Int) + 1) = ((d + 1 : Nat) : Int) := by rw [i64_small (by omega) (by omega)]; omega
          obtain ⟨v, k', b', h1, h2, h3, h4, h5⟩ := hv j hkj hj false (d + 1) (by omega)
          simp only [Bool.eq_false_iff.2 hp, Bool.not_false, if_true, hdd]
          rw [h1, obind, gtrue _ (by simp only [List.length_cons, List.length_nil]; omega)]
          have ha' : ∀ x ∈ acc ++ [v], x.rng := fun x hx => by
            rcases List.mem_append.1 hx with hx | hx
            · exact ha x hx
            · simp only [List.mem_singleton] at hx; subst hx; exact h4
          cases b' with
          | true =>
            have ec2 : ((!(rd W k' true).fbad) && (decide ((rd W k' true).fat < (((rd W k' true).fwords.length : Nat) : Int)))) = false := rfl
            rw [values_reader_value_l1, ec2]
            simp only [Bool.false_eq_true, if_false, obind]
            obtain ⟨v2, k2, b2, h6, h7, h8, h9, h10⟩ := end_loop W hW k' h3 true name (acc ++ [v]) ha'
            exact ⟨v2, k2, b2, h6, by omega, h8, h9, fun h => absurd (h10 h).1 (by decide)⟩
          | false =>
            obtain ⟨_, h6, h7⟩ := h5 rfl
            obtain ⟨v2, k2, b2, h8, h9, h10, h11, h12⟩ := ih k' (by omega) (by omega) h3 false d name r (acc ++ [v]) hd (by rw [List.length_append]; simp only [List.length_cons, List.length_nil]; omega) ha'
            refine ⟨v2, k2, b2, h8, by omega, h10, h11, fun h => ?_⟩
            obtain ⟨_, h13, h14⟩ := h12 h
            rw [volL_app] at h14
            simp only [TValue.volL] at h14
            exact ⟨by first | rfl | trivial, by omega, by omega⟩
      · rw [values_reader_value_l1, Bool.eq_false_iff.2 ec]
        simp only [Bool.false_eq_true, if_false, obind]
        exact end_loop W hW j hj b name acc ha
  exact main _ k (Nat.le_refl _) (Nat.le_refl _) hk
theorem slS_any {w : ByteArray} {c : UInt8} {r : List UInt8} (hw : w.data.toList = c :: r) : ∃ z, slS w 1 ((w.size : Nat) : Int) = some z ∧ z.size ≤ w.size := by
  have : 1 ≤ w.size := by
    have := congrArg List.length hw
    simp only [Array.length_toList, List.length_cons] at this
    show 1 ≤ w.data.size
    omega
  unfold slS
  rw [if_pos (by omega)]
  refine ⟨_, rfl, ?_⟩
  rw [ByteArray.size_extract]; omega
theorem value_any (W : List ByteArray) (hW : W.length ≤ 8388608) (hS : ∀ w ∈ W, w.size ≤ 281474976710656) : ∀ (n k : Nat), W.length - k ≤ n → k ≤ W.length → VT W k := by
  intro n
  induction n with
  | zero =>
    intro k hn hk b d hd
    rw [values_reader_value, next_end (by omega), obind]
    simp only [Bool.true_or, if_true]
    exact ⟨_, k, true, rfl, Nat.le_refl _, hk, rng_flat _ _ _ _ in0 (fun e he => by simp at he), fun h => by cases h⟩
  | succ n ih =>
    intro k hn hk b d hd
    rcases next_any W hW k hk b with ⟨w, hw, hlt, hnx⟩ | ⟨he, hnx⟩
    · have hr1 := rest_at hw
      by_cases hc : (((rd W (k + 1) b).fbad || (w.toList == (ByteArray.mk #[]).toList)) || (decide (((d : Nat) : Int) > 1000))) = true
      · rw [values_reader_value, hnx, obind, if_pos hc]
        exact ⟨_, k + 1, true, rfl, by omega, by omega, rng_flat _ _ _ _ in0 (fun e he => by simp at he), fun h => by cases h⟩
      · have hc2 := hc
        simp only [Bool.or_eq_true, not_or, decide_eq_true_eq] at hc2
        obtain ⟨⟨hb, hne⟩, hd1⟩ := hc2
        have hb : b = false := by cases b; rfl; exact absurd rfl hb
        subst hb
        rw [values_reader_value, hnx, obind, if_neg hc]
        by_cases c1 : (w.toList == (ByteArray.mk #[60, 102, 117, 110, 62]).toList) = true
        · simp only [c1, if_true]
          exact ⟨_, k + 1, false, rfl, by omega, by omega, rng_flat _ _ _ _ in0 (fun e he => by simp at he), fun _ => ⟨by first | rfl | trivial, by omega, by rw [vol_eq]; simp only [TValue.fName, TValue.fSet, TValue.fKids, excVol, TValue.volL, List.map_nil, List.sum_nil]; have : (ByteArray.mk #[]).size = 0 := rfl; omega⟩⟩
        simp only [Bool.eq_false_iff.2 c1, Bool.false_eq_true, if_false]
        by_cases c2 : (w.toList == (ByteArray.mk #[63]).toList) = true
        · simp only [c2, if_true]
          exact ⟨_, k + 1, false, rfl, by omega, by omega, rng_flat _ _ _ _ in0 (fun e he => by simp at he), fun _ => ⟨by first | rfl | trivial, by omega, by rw [vol_eq]; simp only [TValue.fName, TValue.fSet, TValue.fKids, excVol, TValue.volL, List.map_nil, List.sum_nil]; have : (ByteArray.mk #[]).size = 0 := rfl; omega⟩⟩
        simp only [Bool.eq_false_iff.2 c2, Bool.false_eq_true, if_false]
        by_cases c3 : (w.toList == (ByteArray.mk #[33, 42]).toList) = true
        · simp only [c3, if_true, values_All, obind]
          exact ⟨_, k + 1, false, rfl, by omega, by omega, rng_flat _ _ _ _ in0 (fun e he => by simp at he), fun _ => ⟨by first | rfl | trivial, by omega, by rw [vol_eq]; simp only [TValue.fName, TValue.fSet, TValue.fKids, excVol, TValue.volL, List.map_nil, List.sum_nil]; have : (ByteArray.mk #[]).size = 0 := rfl; omega⟩⟩
        simp only [Bool.eq_false_iff.2 c3, Bool.false_eq_true, if_false]
        by_cases c4 : (w.toList == (ByteArray.mk #[33, 123]).toList) = true
        · simp only [c4, if_true]
          obtain ⟨s, k', b', h1, h2, h3, h4, h5, h6⟩ := set_any W hW hS _ (k + 1) (Nat.le_refl _) (by omega) false [] (by simp only [List.length_nil]; omega) (fun e he => by simp at he)
          rw [values_reader_set, h1]
          simp only [obind]
          refine ⟨_, k', b', rfl, by omega, h3, rng_flat _ _ _ _ in0 h5, fun h => ?_⟩
          obtain ⟨_, h7, h8⟩ := h6 h
          refine ⟨by first | rfl | trivial, by omega, ?_⟩
          rw [vol_eq]
          simp only [TValue.fName, TValue.fSet, TValue.fKids, TValue.volL, excVol, List.map_nil, List.sum_nil] at h8 ⊢
          have : (ByteArray.mk #[]).size = 0 := rfl
          omega
        simp only [Bool.eq_false_iff.2 c4, Bool.false_eq_true, if_false]
        by_cases c5 : (w.toList == (ByteArray.mk #[40]).toList) = true
        · simp only [c5, if_true]
          rcases next_any W hW (k + 1) (by omega) false with ⟨w2, hw2, hlt2, hnx2⟩ | ⟨he2, hnx2⟩
          · have hr2 : restW W (k + 1) = w2.size + 1 + restW W (k + 2) := rest_at hw2
            rw [hnx2, obind]
            obtain ⟨v, k', b', h1, h2, h3, h4, h5⟩ := loop_any W hW (k + 2) (by omega) (fun j h1 h2 => ih j (by omega) h2) false d w2 (rd W (k + 2) false) [] (by omega) (by simp only [List.length_nil]; omega) (fun x hx => by simp at hx)
            refine ⟨v, k', b', h1, by omega, h3, h4, fun h => ?_⟩
            obtain ⟨_, h6, h7⟩ := h5 h
            simp only [TValue.volL] at h7
            exact ⟨by first | rfl | trivial, by omega, by omega⟩
          · rw [hnx2, obind]
            obtain ⟨v, k', b', h1, h2, h3, h4, h5⟩ := loop_any W hW (k + 1) (by omega) (fun j h1 h2 => ih j (by omega) h2) true d (ByteArray.mk #[]) (rd W (k + 1) true) [] (by omega) (by simp only [List.length_nil]; omega) (fun x hx => by simp at hx)
            exact ⟨v, k', b', h1, by omega, h3, h4, fun h => absurd (h5 h).1 (by decide)⟩
        simp only [Bool.eq_false_iff.2 c5, Bool.false_eq_true, if_false]
        obtain ⟨c, r, hcr⟩ : ∃ c r, w.data.toList = c :: r := by
          cases hl : w.data.toList with
          | nil => exact absurd (by rw [toList_size, toList_size, hl]; rfl) hne
          | cons c r => exact ⟨c, r, rfl⟩
        have e6 : btI w 0 = some c := by rw [show (0 : Int) = ((0 : Nat) : Int) from rfl, btI_list, hcr]; rfl
        have hsz := hS w (List.mem_of_getElem? hw)
        simp only [e6, obind]
        by_cases c7 : (((c.toNat : Nat) : Int) == 35) = true
        · simp only [c7, if_true]
          obtain ⟨z, hz, hzs⟩ := slS_any hcr
          obtain ⟨m, b2, hm, hr, hb⟩ := num_any W (k + 1) false z (by omega)
          rw [hz, obind, hm, obind]
          exact ⟨_, k + 1, b2, rfl, by omega, by omega, rng_flat _ _ _ _ hr (fun e he => by simp at he), fun h => ⟨by first | rfl | trivial, by omega, by rw [vol_eq]; simp only [TValue.fName, TValue.fSet, TValue.fKids, excVol, TValue.volL, List.map_nil, List.sum_nil]; have : (ByteArray.mk #[]).size = 0 := rfl; omega⟩⟩
        simp only [Bool.eq_false_iff.2 c7, Bool.false_eq_true, if_false]
        obtain ⟨m, b2, hm, hr, hb⟩ := num_any W (k + 1) false w hsz
        have fin : ∀ c141 : Bool, ∃ v k' b', (if c141 = true then
            values_reader_number (rd W (k + 1) false) w >>= fun r145 => some (TValue.mk 1 (ByteArray.mk #[]) r145.1 ([] : List TValue) (TExcSet.mk false ([] : List TExc)), r145.2)
            else some (TValue.mk 3 w 0 ([] : List TValue) (TExcSet.mk false ([] : List TExc)), rd W (k + 1) false)) = some (v, rd W k' b') ∧ k ≤ k' ∧ k' ≤ W.length ∧ v.rng ∧ (b' = false → True ∧ k < k' ∧ v.vol + restW W k' ≤ restW W k) := by
          intro c141
          cases c141 with
          | true =>
            rw [if_pos rfl, hm, obind]
            exact ⟨_, k + 1, b2, rfl, by omega, by omega, rng_flat _ _ _ _ hr (fun e he => by simp at he), fun h => ⟨by first | rfl | trivial, by omega, by rw [vol_eq]; simp only [TValue.fName, TValue.fSet, TValue.fKids, excVol, TValue.volL, List.map_nil, List.sum_nil]; have : (ByteArray.mk #[]).size = 0 := rfl; omega⟩⟩
          | false =>
            rw [if_neg (by decide)]
            exact ⟨_, k + 1, false, rfl, by omega, by omega, rng_flat _ _ _ _ in0 (fun e he => by simp at he), fun h => ⟨by first | rfl | trivial, by omega, by rw [vol_eq]; simp only [TValue.fName, TValue.fSet, TValue.fKids, excVol, TValue.volL, List.map_nil, List.sum_nil]; omega⟩⟩
        by_cases c8 : (((c.toNat : Nat) : Int) == 45) = true
        · simp only [c8, if_true, obind]; exact fin true
        · simp only [Bool.eq_false_iff.2 c8, Bool.false_eq_true, if_false]
          by_cases c9 : (decide (((c.toNat : Nat) : Int) ≥ 48)) = true
          · simp only [c9, if_true, obind]; exact fin _
          · simp only [Bool.eq_false_iff.2 c9, Bool.false_eq_true, if_false, obind]; exact fin false
    · rw [values_reader_value, hnx, obind]
      simp only [Bool.true_or, if_true]
      exact ⟨_, k, true, rfl, Nat.le_refl _, hk, rng_flat _ _ _ _ in0 (fun e he => by simp at he), fun h => by cases h⟩
end Go.Proofs.YtafniolcakiljaaDoor

set_option linter.unusedVariables false
set_option linter.unusedSimpArgs false
set_option maxRecDepth 100000
set_option maxHeartbeats 8000000
namespace Go.Proofs.YtafniolcakiljaaDoor
open Go Go.Am
def exA : TValue := TValue.mk 2 (ByteArray.mk #[]) 97 [] (TExcSet.mk false [])
def exN : TValue := TValue.mk 3 (ByteArray.mk #[91, 93]) 0 [] (TExcSet.mk false [])
def exV : TValue := TValue.mk 3 (ByteArray.mk #[58]) 0 [exA, exN] (TExcSet.mk false [])
theorem ixI0 {α : Type} (x : α) (l : List α) : ixI (x :: l) 0 = some x := rfl
theorem ixI1 {α : Type} (x y : α) (l : List α) : ixI (x :: y :: l) 1 = some y := rfl
theorem exCopied : values_copied exA = some exA := by
  rw [values_copied, slices_Clone_Exc]
  rw [show exA.fSet.fList = [] from rfl, show exA.fKids = [] from rfl]
  rw [gtrue _ (by decide +kernel), obind, values_copied_l1]; rfl
theorem exList : values_List exV = some ([exA], true) := by
  rw [values_List, values_List_l1, if_pos (by decide +kernel), show exV.fKids = [exA, exN] from rfl, ixI0, obind, exCopied, obind, gtrue _ (by decide +kernel), ixI1, obind, values_List_l1, if_neg (by decide +kernel), if_neg (by decide +kernel)]; rfl
theorem exText : values_Text exV = some (ByteArray.mk #[97], true) := by
  rw [values_Text, exList, obind, if_neg (by decide +kernel), gtrue _ (by decide +kernel)]
  show values_Text_l1 [] _ 0 [exA] = _
  rw [values_Text_l1]
  show (if _ then _ else _) = _
  rw [if_neg (by decide +kernel), gtrue _ (by decide +kernel), values_Text_l1]
  rfl
theorem exDepthA : values_depth exA = some 1 := by rw [values_depth, show exA.fKids = [] from rfl, values_depth_l1]; rfl
theorem exDepthN : values_depth exN = some 1 := by rw [values_depth, show exN.fKids = [] from rfl, values_depth_l1]; rfl
theorem exDepth : values_depth exV = some 2 := by
  rw [values_depth, show exV.fKids = [exA, exN] from rfl, values_depth_l1]
  simp only [exDepthA, obind]
  rw [values_depth_l1]
  simp only [exDepthN, obind]
  rw [values_depth_l1]; rfl
theorem exSizeA : values_size exA = some 1 := by rw [values_size, show exA.fKids = [] from rfl, values_size_l1]
theorem exSizeN : values_size exN = some 1 := by rw [values_size, show exN.fKids = [] from rfl, values_size_l1]
theorem exSize : values_size exV = some 3 := by
  rw [values_size, show exV.fKids = [exA, exN] from rfl, values_size_l1]
  simp only [exSizeA, obind]
  rw [values_size_l1]
  simp only [exSizeN, obind]
  rw [values_size_l1]; rfl
theorem exNoSet : values_noSet (TExcSet.mk false []) = some true := by rw [values_noSet]; rfl
theorem con_ok (s : ByteArray) : True := trivial
theorem exConV : values_constructor (ByteArray.mk #[58]) = some true := by
  rw [values_constructor]
  rw [if_neg (by decide +kernel), values_constructor_l1, if_pos (by decide +kernel)]
  rw [show btI (ByteArray.mk #[58]) ((0 : Nat) : Int) = some 58 from by decide +kernel]
  simp only [obind]
  rw [if_neg (by decide +kernel)]
  simp only [obind]
  rw [if_neg (by decide +kernel), gtrue _ (by decide +kernel), values_constructor_l1, if_neg (by decide +kernel)]
  rw [show btI (ByteArray.mk #[58]) 0 = some 58 from by decide +kernel]
  decide +kernel
theorem exConN : values_constructor (ByteArray.mk #[91, 93]) = some true := by
  rw [values_constructor]
  rw [if_neg (by decide +kernel), values_constructor_l1, if_pos (by decide +kernel)]
  rw [show btI (ByteArray.mk #[91, 93]) ((0 : Nat) : Int) = some 91 from by decide +kernel]
  simp only [obind]
  rw [if_neg (by decide +kernel)]
  simp only [obind]
  rw [if_neg (by decide +kernel), gtrue _ (by decide +kernel), values_constructor_l1, if_pos (by decide +kernel)]
  rw [show btI (ByteArray.mk #[91, 93]) ((0 + 1 : Nat) : Int) = some 93 from by decide +kernel]
  simp only [obind]
  rw [if_neg (by decide +kernel)]
  simp only [obind]
  rw [if_neg (by decide +kernel), gtrue _ (by decide +kernel), values_constructor_l1, if_neg (by decide +kernel)]
  rw [show btI (ByteArray.mk #[91, 93]) 0 = some 91 from by decide +kernel]
  decide +kernel
theorem exFormedA : values_formed exA = some true := by
  rw [values_formed, show exA.fSet = TExcSet.mk false [] from rfl, exNoSet, if_neg (by decide +kernel), if_pos (by decide +kernel)]
  simp only [obind]
  rw [if_neg (by decide +kernel), if_neg (by decide +kernel), if_neg (by decide +kernel), values_formed_k1, if_neg (by decide +kernel), if_pos (by decide +kernel)]
  decide +kernel
theorem exFormedN : values_formed exN = some true := by
  rw [values_formed, show exN.fSet = TExcSet.mk false [] from rfl, exNoSet, if_neg (by decide +kernel), if_pos (by decide +kernel)]
  simp only [obind]
  rw [if_neg (by decide +kernel), if_neg (by decide +kernel), if_neg (by decide +kernel), values_formed_k1, if_neg (by decide +kernel), if_neg (by decide +kernel), if_neg (by decide +kernel), if_pos (by decide +kernel)]
  rw [show exN.fKids = [] from rfl, values_formed_l2, show exN.fName = ByteArray.mk #[91, 93] from rfl, exConN]; rfl
theorem exFormed : values_formed exV = some true := by
  rw [values_formed, show exV.fSet = TExcSet.mk false [] from rfl, exNoSet, if_neg (by decide +kernel), if_pos (by decide +kernel)]
  simp only [obind]
  rw [if_neg (by decide +kernel), if_neg (by decide +kernel), if_neg (by decide +kernel), values_formed_k1, if_neg (by decide +kernel), if_neg (by decide +kernel), if_neg (by decide +kernel), if_pos (by decide +kernel)]
  rw [show exV.fKids = [exA, exN] from rfl, values_formed_l2]
  simp only [exFormedA, obind]
  rw [if_neg (by decide +kernel), values_formed_l2]
  simp only [exFormedN, obind]
  rw [if_neg (by decide +kernel), values_formed_l2, show exV.fName = ByteArray.mk #[58] from rfl, exConV]; rfl
theorem exCheck : values_Check exV = some 0 := by
  rw [values_Check, exDepth, obind, if_neg (by decide +kernel), exSize, obind, if_neg (by decide +kernel), exFormed, obind, if_neg (by decide +kernel)]
theorem exWords : values_words [] exV = some [ByteArray.mk #[40], ByteArray.mk #[58], ByteArray.mk #[35, 57, 55], ByteArray.mk #[91, 93], ByteArray.mk #[41]] := by
  rw [values_words, if_neg (by decide +kernel), if_neg (by decide +kernel), if_neg (by decide +kernel), if_neg (by decide +kernel), if_neg (by decide +kernel), if_neg (by decide +kernel), gtrue _ (by decide +kernel)]
  rw [show exV.fKids = [exA, exN] from rfl, values_words_l2]
  rw [values_words, if_neg (by decide +kernel), if_pos (by decide +kernel), show strconv_Itoa exA.fN = some (ByteArray.mk #[57, 55]) from by decide +kernel, obind, gtrue _ (by decide +kernel), gtrue _ (by decide +kernel), obind, values_words_l2]
  rw [values_words, if_neg (by decide +kernel), if_neg (by decide +kernel), if_neg (by decide +kernel), if_neg (by decide +kernel), if_neg (by decide +kernel), if_pos (by decide +kernel), gtrue _ (by decide +kernel), obind, values_words_l2, gtrue _ (by decide +kernel)]
  rfl
theorem exPrint : values_Print exV = some (ByteArray.mk #[40, 32, 58, 32, 35, 57, 55, 32, 91, 93, 32, 41]) := by
  rw [values_Print, exCheck, obind, if_neg (by decide +kernel), exWords, obind, strings_Join, if_pos (by decide +kernel)]
  decide +kernel
theorem example_true : lazyclaw25_example = some true := by
  rw [lazyclaw25_example]
  show (values_Text exV >>= fun r1 => values_Print exV >>= fun r2 => _) = _
  rw [exText, obind, exPrint, obind, if_pos (by decide +kernel)]
  simp only [refines_eq, obind]
  decide +kernel
end Go.Proofs.YtafniolcakiljaaDoor

set_option linter.unusedVariables false
set_option linter.unusedSimpArgs false
set_option maxRecDepth 100000
set_option maxHeartbeats 4000000
namespace Go.Proofs.YtafniolcakiljaaDoor
open Go Go.Am

theorem exc_of {es : List E} (h : Sh tab 41 es) : ∃ e : TExc, es = e.cells := by
  obtain ⟨parts, rfl, hl, hf⟩ := sh_struct h (fs := [(9, 0), (3, 1)]) rfl
  obtain ⟨a, b, rfl⟩ := get2 hl
  obtain ⟨s, rfl, hs⟩ := sh_string (hf 0 9 0 a rfl rfl) rfl
  obtain ⟨n, rfl, hn⟩ := sh_int (hf 1 3 1 b rfl rfl) (k := .i64) rfl
  exact ⟨⟨s, n⟩, rfl⟩
theorem excs_of {es : List E} (h : Sh tab 24 es) : ∃ l : List TExc, es = [.sl (l.map TExc.cells)] := by
  obtain ⟨rows, rfl, hl, hr⟩ := sh_slice h (e := 41) rfl
  obtain ⟨l, rfl⟩ := list_enc (f := TExc.cells) rows fun row hm => exc_of (hr row hm)
  exact ⟨l, rfl⟩
theorem set_of {es : List E} (h : Sh tab 26 es) : ∃ s : TExcSet, es = s.cells := by
  obtain ⟨parts, rfl, hl, hf⟩ := sh_struct h (fs := [(4, 0), (24, 1)]) rfl
  obtain ⟨a, b, rfl⟩ := get2 hl
  obtain ⟨all, rfl⟩ := sh_bool (hf 0 4 0 a rfl rfl) rfl
  obtain ⟨l, rfl⟩ := excs_of (hf 1 24 1 b rfl rfl)
  exact ⟨⟨all, l⟩, rfl⟩
theorem val_none {t : Nat} {k : TK} {es : List E} (hk : (tab.ti t).k = k) (h1 : ∀ fs, k ≠ .struct fs) (h2 : ∀ e, k ≠ .slice e) : (t = 28 → ∃ v : TValue, es = v.cells) ∧ (t = 23 → ∃ l : List TValue, es = [.sl (l.map TValue.cells)]) :=
  ⟨fun ht => by subst ht; exact absurd hk.symm (h1 _), fun ht => by subst ht; exact absurd hk.symm (h2 _)⟩
theorem val_of' {t : Nat} {es : List E} (h : Sh tab t es) : (t = 28 → ∃ v : TValue, es = v.cells) ∧ (t = 23 → ∃ l : List TValue, es = [.sl (l.map TValue.cells)]) := by
  induction h with
  | bool t b h => exact val_none h (by simp) (by simp)
  | int t k n h hn => exact val_none h (by simp) (by simp)
  | string t s h hs => exact val_none h (by simp) (by simp)
  | array t n e parts h hl hf => exact val_none h (by simp) (by simp)
  | slice t e rows h hl hr ih =>
    refine ⟨fun ht => (by subst ht; cases h), fun ht => ?_⟩
    subst ht
    have he : e = 28 := by injection h with h; exact h.symm
    subst he
    obtain ⟨l, rfl⟩ := list_enc (f := TValue.cells) rows fun row hm => by
      obtain ⟨i, hi, rfl⟩ := List.mem_iff_getElem.1 hm
      exact (ih i _ (List.getElem?_eq_getElem hi)).1 rfl
    exact ⟨l, rfl⟩
  | struct t fs parts h hl hf ih =>
    refine ⟨fun ht => ?_, fun ht => (by subst ht; cases h)⟩
    subst ht
    have he : fs = [(22, 0), (9, 1), (3, 2), (23, 3), (26, 4)] := by injection h with h; exact h.symm
    subst he
    obtain ⟨a, b, c, d, e, rfl⟩ := get5 hl
    obtain ⟨op, rfl, _⟩ := sh_int (hf 0 22 0 a rfl rfl) (k := .i64) rfl
    obtain ⟨name, rfl, _⟩ := sh_string (hf 1 9 1 b rfl rfl) rfl
    obtain ⟨n, rfl, _⟩ := sh_int (hf 2 3 2 c rfl rfl) (k := .i64) rfl
    obtain ⟨kids, rfl⟩ := (ih 3 23 3 d rfl rfl).2 rfl
    obtain ⟨set, rfl⟩ := set_of (hf 4 26 4 e rfl rfl)
    exact ⟨.mk op name n kids set, by rw [TValue.cells_eq]; rfl⟩
theorem val_of {es : List E} (h : Sh tab 28 es) : ∃ v : TValue, es = v.cells := (val_of' h).1 rfl

end Go.Proofs.YtafniolcakiljaaDoor

set_option linter.unusedVariables false
set_option linter.unusedSimpArgs false
set_option maxRecDepth 100000
set_option maxHeartbeats 4000000
namespace Go.Proofs.YtafniolcakiljaaDoor
open Go Go.Am

/-! ### data whose lists and strings are of a size that there is -/
def TExcSet.ok (s : TExcSet) : Prop := s.fList.length ≤ maxLen ∧ ∀ e ∈ s.fList, e.fCon.size ≤ maxLen
mutual
def TValue.ok : TValue → Prop
  | .mk _ name _ kids set => name.size ≤ maxLen ∧ kids.length ≤ maxLen ∧ set.ok ∧ TValue.okL kids
def TValue.okL : List TValue → Prop
  | [] => True
  | x :: xs => x.ok ∧ TValue.okL xs
end
theorem okL_iff : ∀ l : List TValue, TValue.okL l ↔ ∀ x ∈ l, x.ok
  | [] => by simp [TValue.okL]
  | x :: xs => by simp [TValue.okL, okL_iff xs]
theorem ok_eq (v : TValue) : v.ok ↔ v.fName.size ≤ maxLen ∧ v.fKids.length ≤ maxLen ∧ v.fSet.ok ∧ ∀ x ∈ v.fKids, x.ok := by
  cases v; rw [TValue.ok, okL_iff]; rfl
theorem list_encP {α : Type} {f : α → List E} {p : α → Prop} : ∀ rows : List (List E), (∀ row ∈ rows, ∃ x, row = f x ∧ p x) → ∃ l : List α, rows = l.map f ∧ ∀ x ∈ l, p x
  | [], _ => ⟨[], rfl, fun x h => by simp at h⟩
  | row :: rows, h => by
    obtain ⟨x, hx, hp⟩ := h row (by simp)
    obtain ⟨l, hl, hq⟩ := list_encP rows fun r hr => h r (by simp [hr])
    exact ⟨x :: l, by rw [hx, hl]; rfl, fun y hy => by rcases List.mem_cons.1 hy with rfl | hy; exact hp; exact hq y hy⟩
theorem exc_ok {es : List E} (h : Sh tab 41 es) : ∃ e : TExc, es = e.cells ∧ e.fCon.size ≤ maxLen := by
  obtain ⟨parts, rfl, hl, hf⟩ := sh_struct h (fs := [(9, 0), (3, 1)]) rfl
  obtain ⟨a, b, rfl⟩ := get2 hl
  obtain ⟨s, rfl, hs⟩ := sh_string (hf 0 9 0 a rfl rfl) rfl
  obtain ⟨n, rfl, hn⟩ := sh_int (hf 1 3 1 b rfl rfl) (k := .i64) rfl
  exact ⟨⟨s, n⟩, rfl, hs⟩
theorem set_ok {es : List E} (h : Sh tab 26 es) : ∃ s : TExcSet, es = s.cells ∧ s.ok := by
  obtain ⟨parts, rfl, hl, hf⟩ := sh_struct h (fs := [(4, 0), (24, 1)]) rfl
  obtain ⟨a, b, rfl⟩ := get2 hl
  obtain ⟨all, rfl⟩ := sh_bool (hf 0 4 0 a rfl rfl) rfl
  obtain ⟨rows, rfl, hl, hr⟩ := sh_slice (hf 1 24 1 b rfl rfl) (e := 41) rfl
  obtain ⟨l, rfl, hp⟩ := list_encP (f := TExc.cells) (p := fun e => e.fCon.size ≤ maxLen) rows fun row hm => exc_ok (hr row hm)
  exact ⟨⟨all, l⟩, rfl, by simpa using hl, hp⟩
theorem valk_none {t : Nat} {k : TK} {es : List E} (hk : (tab.ti t).k = k) (h1 : ∀ fs, k ≠ .struct fs) (h2 : ∀ e, k ≠ .slice e) : (t = 28 → ∃ v : TValue, es = v.cells ∧ v.ok) ∧ (t = 23 → ∃ l : List TValue, es = [.sl (l.map TValue.cells)] ∧ l.length ≤ maxLen ∧ ∀ x ∈ l, x.ok) :=
  ⟨fun ht => by subst ht; exact absurd hk.symm (h1 _), fun ht => by subst ht; exact absurd hk.symm (h2 _)⟩
theorem val_ok' {t : Nat} {es : List E} (h : Sh tab t es) : (t = 28 → ∃ v : TValue, es = v.cells ∧ v.ok) ∧ (t = 23 → ∃ l : List TValue, es = [.sl (l.map TValue.cells)] ∧ l.length ≤ maxLen ∧ ∀ x ∈ l, x.ok) := by
  induction h with
  | bool t b h => exact valk_none h (by simp) (by simp)
  | int t k n h hn => exact valk_none h (by simp) (by simp)
  | string t s h hs => exact valk_none h (by simp) (by simp)
  | array t n e parts h hl hf => exact valk_none h (by simp) (by simp)
  | slice t e rows h hl hr ih =>
    refine ⟨fun ht => (by subst ht; cases h), fun ht => ?_⟩
    subst ht
    have he : e = 28 := by injection h with h; exact h.symm
    subst he
    obtain ⟨l, rfl, hp⟩ := list_encP (f := TValue.cells) (p := TValue.ok) rows fun row hm => by
      obtain ⟨i, hi, rfl⟩ := List.mem_iff_getElem.1 hm
      exact (ih i _ (List.getElem?_eq_getElem hi)).1 rfl
    exact ⟨l, rfl, by simpa using hl, hp⟩
  | struct t fs parts h hl hf ih =>
    refine ⟨fun ht => ?_, fun ht => (by subst ht; cases h)⟩
    subst ht
    have he : fs = [(22, 0), (9, 1), (3, 2), (23, 3), (26, 4)] := by injection h with h; exact h.symm
    subst he
    obtain ⟨a, b, c, d, e, rfl⟩ := get5 hl
    obtain ⟨op, rfl, _⟩ := sh_int (hf 0 22 0 a rfl rfl) (k := .i64) rfl
    obtain ⟨name, rfl, hn⟩ := sh_string (hf 1 9 1 b rfl rfl) rfl
    obtain ⟨n, rfl, _⟩ := sh_int (hf 2 3 2 c rfl rfl) (k := .i64) rfl
    obtain ⟨kids, rfl, hk1, hk2⟩ := (ih 3 23 3 d rfl rfl).2 rfl
    obtain ⟨set, rfl, hs⟩ := set_ok (hf 4 26 4 e rfl rfl)
    exact ⟨.mk op name n kids set, by rw [TValue.cells_eq]; rfl, (ok_eq _).2 ⟨hn, hk1, hs, hk2⟩⟩
theorem val_ok {es : List E} (h : Sh tab 28 es) : ∃ v : TValue, es = v.cells ∧ v.ok := (val_ok' h).1 rfl
end Go.Proofs.YtafniolcakiljaaDoor

set_option linter.unusedVariables false
set_option linter.unusedSimpArgs false
set_option maxRecDepth 100000
set_option maxHeartbeats 4000000
namespace Go.Proofs.YtafniolcakiljaaDoor
open Go Go.Am
/-! ### the two Same -/
def excsB : List TExc → List TExc → Bool
  | [], [] => true
  | x :: xs, y :: ys => excEq x y && excsB xs ys
  | _, _ => false
theorem excsB_len : ∀ l m, l.length ≠ m.length → excsB l m = false
  | [], [], h => absurd rfl h
  | x :: xs, y :: ys, h => by rw [excsB, excsB_len xs ys (by simpa using h), Bool.and_false]
  | [], _ :: _, _ => by simp [excsB]
  | _ :: _, [], _ => by simp [excsB]
theorem excsB_refl : ∀ l, excsB l l = true
  | [] => rfl
  | x :: xs => by rw [excsB, excEq_refl, excsB_refl xs]; rfl
theorem eqx_l (s1 s2 : List TExc) : ∀ (post post' pre' : List TExc) (k : Nat), s2 = pre' ++ post' → k = pre'.length → post.length = post'.length → slices_Equal_Exc_l1 s1 s2 k post = some (excsB post post')
  | [], [], pre', k, _, _, _ => by rw [slices_Equal_Exc_l1]; rfl
  | x :: post, y :: post', pre', k, h2, hk, hl => by
    rw [slices_Equal_Exc_l1, excsB]
    simp only [get_mid h2 hk, obind]
    show (if (!excEq x y) = true then _ else _) = _
    cases excEq x y
    · rfl
    · show slices_Equal_Exc_l1 s1 s2 (k + 1) post = _
      rw [eqx_l s1 s2 post post' (pre' ++ [y]) (k + 1) (by rw [h2]; simp) (by rw [hk]; simp) (by simpa using hl)]; rfl
  | [], _ :: _, _, _, _, _, hl => by simp at hl
  | _ :: _, [], _, _, _, _, hl => by simp at hl
theorem eqx_eq (a b : List TExc) : slices_Equal_Exc a b = some (excsB a b) := by
  rw [slices_Equal_Exc]
  by_cases hl : a.length = b.length
  · rw [if_neg (by simp [hl]), eqx_l a b a b [] 0 rfl rfl hl]
  · rw [if_pos (by rw [bne_iff_ne]; omega), excsB_len _ _ hl]
theorem sset_l (a b : TExcSet) : ∀ (post post' pre' : List TExc) (k : Nat), b.fList = pre' ++ post' → k = pre'.length → post.length = post'.length → lazycref25_SameSet_l1 k a b post = some (excsB post post')
  | [], [], pre', k, _, _, _ => by rw [lazycref25_SameSet_l1]; rfl
  | x :: post, y :: post', pre', k, h2, hk, hl => by
    rw [lazycref25_SameSet_l1, excsB]
    simp only [get_mid h2 hk, obind]
    show (if (!excEq x y) = true then _ else _) = _
    cases excEq x y
    · rfl
    · show lazycref25_SameSet_l1 (k + 1) a b post = _
      rw [sset_l a b post post' (pre' ++ [y]) (k + 1) (by rw [h2]; simp) (by rw [hk]; simp) (by simpa using hl)]; rfl
  | [], _ :: _, _, _, _, _, hl => by simp at hl
  | _ :: _, [], _, _, _, _, hl => by simp at hl
theorem sset_eq (a b : TExcSet) : lazycref25_SameSet a b = some ((a.fAll == b.fAll) && excsB a.fList b.fList) := by
  rw [lazycref25_SameSet]
  by_cases hA : a.fAll == b.fAll
  · rw [hA]
    by_cases hl : a.fList.length = b.fList.length
    · rw [if_neg (by simp [hl]), sset_l a b a.fList b.fList [] 0 rfl rfl hl]; rfl
    · rw [if_pos (by rw [Bool.not_true, Bool.false_or, bne_iff_ne]; omega), excsB_len _ _ hl]; rfl
  · rw [if_pos (by simp [hA]), Bool.eq_false_iff.2 hA]; rfl
end Go.Proofs.YtafniolcakiljaaDoor

set_option linter.unusedVariables false
set_option linter.unusedSimpArgs false
set_option maxRecDepth 100000
set_option maxHeartbeats 4000000
namespace Go.Proofs.YtafniolcakiljaaDoor
open Go Go.Am
mutual
def sameB : TValue → TValue → Bool
  | .mk op name n kids set, b => ((((op == b.fOp) && (name.toList == b.fName.toList)) && (n == b.fN)) && ((set.fAll == b.fSet.fAll) && excsB set.fList b.fSet.fList)) && sameL kids b.fKids
def sameL : List TValue → List TValue → Bool
  | [], [] => true
  | x :: xs, y :: ys => sameB x y && sameL xs ys
  | _, _ => false
end
theorem sameB_eq (a b : TValue) : sameB a b = (((((a.fOp == b.fOp) && (a.fName.toList == b.fName.toList)) && (a.fN == b.fN)) && ((a.fSet.fAll == b.fSet.fAll) && excsB a.fSet.fList b.fSet.fList)) && sameL a.fKids b.fKids) := by cases a; rw [sameB]; rfl
theorem sameL_len : ∀ l m, l.length ≠ m.length → sameL l m = false
  | [], [], h => absurd rfl h
  | x :: xs, y :: ys, h => by rw [sameL, sameL_len xs ys (by simpa using h), Bool.and_false]
  | [], _ :: _, _ => by simp [sameL]
  | _ :: _, [], _ => by simp [sameL]
theorem efs_l (s1 s2 : List TValue) : ∀ (post post' pre' : List TValue) (k : Nat), (∀ x ∈ post, ∀ y, values_Same x y = some (sameB x y)) → s2 = pre' ++ post' → k = pre'.length → post.length = post'.length →
    slices_EqualFunc_Value_values_Same_l1 s2 s1 k post = some (sameL post post')
  | [], [], pre', k, _, _, _, _ => by rw [slices_EqualFunc_Value_values_Same_l1, sameL]
  | x :: post, y :: post', pre', k, h, h2, hk, hl => by
    rw [slices_EqualFunc_Value_values_Same_l1, sameL]
    simp only [get_mid h2 hk, obind, h x (by simp) y]
    cases sameB x y
    · rfl
    · show slices_EqualFunc_Value_values_Same_l1 s2 s1 (k + 1) post = _
      rw [efs_l s1 s2 post post' (pre' ++ [y]) (k + 1) (fun z hz => h z (by simp [hz])) (by rw [h2]; simp) (by rw [hk]; simp) (by simpa using hl)]; rfl
  | [], _ :: _, _, _, _, _, _, hl => by simp at hl
  | _ :: _, [], _, _, _, _, _, hl => by simp at hl
theorem same_eq : ∀ a b : TValue, values_Same a b = some (sameB a b) := by
  refine TValue.ind fun a ih b => ?_
  have hk : slices_EqualFunc_Value_values_Same a.fKids b.fKids = some (sameL a.fKids b.fKids) := by
    rw [slices_EqualFunc_Value_values_Same]
    by_cases hl : a.fKids.length = b.fKids.length
    · rw [if_neg (by simp [hl]), efs_l a.fKids b.fKids a.fKids b.fKids [] 0 ih rfl rfl hl]
    · rw [if_pos (by rw [bne_iff_ne]; omega), sameL_len _ _ hl]
  rw [values_Same, hk, eqx_eq, sameB_eq]
  simp only [obind]
  cases (a.fOp == b.fOp) <;> cases (a.fName.toList == b.fName.toList) <;> cases (a.fN == b.fN) <;> cases (a.fSet.fAll == b.fSet.fAll) <;> cases excsB a.fSet.fList b.fSet.fList <;> cases sameL a.fKids b.fKids <;> rfl
end Go.Proofs.YtafniolcakiljaaDoor

set_option linter.unusedVariables false
set_option linter.unusedSimpArgs false
set_option maxRecDepth 100000
set_option maxHeartbeats 4000000
namespace Go.Proofs.YtafniolcakiljaaDoor
open Go Go.Am
theorem samr_l (a b : TValue) : ∀ (post post' pre' : List TValue) (k : Nat), (∀ x ∈ post, ∀ y, lazycref25_Same x y = some (sameB x y)) → b.fKids = pre' ++ post' → k = pre'.length → post.length = post'.length →
    lazycref25_Same_l1 k a b post = some (sameL post post')
  | [], [], pre', k, _, _, _, _ => by rw [lazycref25_Same_l1, sameL]
  | x :: post, y :: post', pre', k, h, h2, hk, hl => by
    rw [lazycref25_Same_l1, sameL]
    simp only [get_mid h2 hk, obind, h x (by simp) y]
    cases sameB x y
    · rfl
    · show lazycref25_Same_l1 (k + 1) a b post = _
      rw [samr_l a b post post' (pre' ++ [y]) (k + 1) (fun z hz => h z (by simp [hz])) (by rw [h2]; simp) (by rw [hk]; simp) (by simpa using hl)]; rfl
  | [], _ :: _, _, _, _, _, _, hl => by simp at hl
  | _ :: _, [], _, _, _, _, _, hl => by simp at hl
theorem samer_eq : ∀ a b : TValue, lazycref25_Same a b = some (sameB a b) := by
  refine TValue.ind fun a ih b => ?_
  rw [lazycref25_Same, sset_eq, sameB_eq]
  simp only [obind]
  by_cases hl : a.fKids.length = b.fKids.length
  · rw [samr_l a b a.fKids b.fKids [] 0 ih rfl rfl hl, hl]
    simp only [bne_self_eq_false, Bool.or_false]
    cases h1 : (a.fOp == b.fOp) <;> cases h2 : (a.fName.toList == b.fName.toList) <;> cases h3 : (a.fN == b.fN) <;> simp only [bne, h1, h2, h3, Bool.not_true, Bool.not_false, Bool.or_true, Bool.true_or, Bool.or_false, Bool.false_or, Bool.true_and, Bool.false_and, Bool.and_false, Bool.false_eq_true, if_true, if_false, obind] <;> first | rfl | (cases ((a.fSet.fAll == b.fSet.fAll) && excsB a.fSet.fList b.fSet.fList) <;> rfl)
  · rw [sameL_len _ _ hl, Bool.and_false]
    have hd : (((a.fKids.length : Nat) : Int) != ((b.fKids.length : Nat) : Int)) = true := by rw [bne_iff_ne]; omega
    rw [hd]
    simp only [Bool.or_true, if_true]
    cases h1 : (a.fOp == b.fOp) <;> cases h2 : (a.fName.toList == b.fName.toList) <;> cases h3 : (a.fN == b.fN) <;> simp only [bne, h1, h2, h3, Bool.not_true, Bool.not_false, Bool.or_true, Bool.true_or, Bool.or_false, Bool.false_or, Bool.true_and, Bool.false_and, Bool.and_false, Bool.false_eq_true, if_true, if_false, obind] <;> rfl
theorem sameB_refl : ∀ v : TValue, sameB v v = true := by
  refine TValue.ind fun v ih => ?_
  have key : ∀ l : List TValue, (∀ x ∈ l, sameB x x = true) → sameL l l = true := by
    intro l
    induction l with
    | nil => intro _; rw [sameL]
    | cons x l ih2 => intro h; rw [sameL, h x (by simp), ih2 fun y hy => h y (by simp [hy])]; rfl
  rw [sameB_eq, key _ ih, excsB_refl]
  simp
end Go.Proofs.YtafniolcakiljaaDoor

set_option linter.unusedVariables false
set_option linter.unusedSimpArgs false
set_option maxRecDepth 100000
set_option maxHeartbeats 4000000
namespace Go.Proofs.YtafniolcakiljaaDoor
open Go Go.Am
/-! ### parsed from its text -/
theorem noSp_lit {l : List UInt8} (h : ∀ b ∈ l, b ≠ 32) : noSp ⟨l.toArray⟩ := h
theorem noSp_itoa (n : Int) : noSp (itoaB n) := by
  obtain ⟨b, r, h1, h2, h3⟩ := itoa_cons n
  intro x hx e
  have hx : x ∈ Lib.itoa n := hx
  rw [h1] at hx
  subst e
  rcases List.mem_cons.1 hx with hx | hx
  · subst hx; unfold isDig at h2; revert h2; decide
  · have := h3 _ hx; unfold isDig at this; revert this; decide
theorem noSp_app {a b : ByteArray} (ha : noSp a) (hb : noSp b) : noSp (a ++ b) := by
  intro x hx
  rw [ByteArray.data_append, Array.toList_append, List.mem_append] at hx
  exact hx.elim (ha x) (hb x)
theorem words_noSp : ∀ v : TValue, values_formed v = some true → ∀ w ∈ wordsB v, noSp w := by
  refine TValue.ind fun v ih hf => ?_
  have hfd := formed_desc v hf
  cases hfd with
  | int n =>
    intro w hw
    rw [show wordsB (TValue.mk 1 (ByteArray.mk #[]) n [] ⟨false, []⟩) = [itoaB n] by rw [wordsB_eq]; rfl] at hw
    simp only [List.mem_singleton] at hw; subst hw; exact noSp_itoa n
  | char n =>
    intro w hw
    rw [show wordsB (TValue.mk 2 (ByteArray.mk #[]) n [] ⟨false, []⟩) = [(ByteArray.mk #[35]) ++ itoaB n] by rw [wordsB_eq]; rfl] at hw
    simp only [List.mem_singleton] at hw; subst hw
    exact noSp_app (noSp_lit (l := [35]) (by decide)) (noSp_itoa n)
  | con name kids hn hk =>
    intro w hw
    rw [wordsB_eq] at hw
    simp only [TValue.fOp, TValue.fName, TValue.fN, TValue.fKids, TValue.fSet] at hw
    by_cases hl : (((kids.length : Nat) : Int) == 0) = true
    · have hw : w ∈ [name] := by simpa [hl] using hw
      simp only [List.mem_singleton] at hw; subst hw; exact con_noSp hn
    · have hw : w ∈ [(ByteArray.mk #[40]), name] ++ wordsL kids ++ [(ByteArray.mk #[41])] := by simp only [Bool.eq_false_iff.2 hl] at hw; exact hw
      rw [List.mem_append, List.mem_append] at hw
      rcases hw with (hw | hw) | hw
      · simp only [List.mem_cons, List.not_mem_nil, or_false] at hw
        rcases hw with rfl | rfl
        · exact noSp_lit (l := [40]) (by decide)
        · exact con_noSp hn
      · have key : ∀ l : List TValue, (∀ x ∈ l, x ∈ kids) → w ∈ wordsL l → noSp w := by
          intro l
          induction l with
          | nil => intro _ h; rw [wordsL] at h; simp at h
          | cons x l ih2 =>
            intro hm h
            rw [wordsL, List.mem_append] at h
            rcases h with h | h
            · exact ih x (hm x (by simp)) (hk x (hm x (by simp))) w h
            · exact ih2 (fun y hy => hm y (by simp [hy])) h
        exact key kids (fun x hx => hx) hw
      · simp only [List.mem_singleton] at hw; subst hw; exact noSp_lit (l := [41]) (by decide)
  | fn =>
    intro w hw
    rw [show wordsB (TValue.mk 4 (ByteArray.mk #[]) 0 [] ⟨false, []⟩) = [(ByteArray.mk #[60, 102, 117, 110, 62])] by rw [wordsB_eq]; rfl] at hw
    simp only [List.mem_singleton] at hw; subst hw; exact noSp_lit (l := [60, 102, 117, 110, 62]) (by decide)
  | all =>
    intro w hw
    rw [show wordsB (TValue.mk 5 (ByteArray.mk #[]) 0 [] ⟨true, []⟩) = [(ByteArray.mk #[33, 42])] by rw [wordsB_eq]; rfl] at hw
    simp only [List.mem_singleton] at hw; subst hw; exact noSp_lit (l := [33, 42]) (by decide)
  | bad l hl =>
    intro w hw
    rw [show wordsB (TValue.mk 5 (ByteArray.mk #[]) 0 [] ⟨false, l⟩) = [(ByteArray.mk #[33, 123])] ++ flatE l ++ [(ByteArray.mk #[125])] by rw [wordsB_eq]; rfl] at hw
    rw [List.mem_append, List.mem_append] at hw
    rcases hw with (hw | hw) | hw
    · simp only [List.mem_singleton] at hw; subst hw; exact noSp_lit (l := [33, 123]) (by decide)
    · obtain ⟨e, he, hw⟩ := List.mem_flatMap.1 hw
      simp only [List.mem_cons, List.not_mem_nil, or_false] at hw
      rcases hw with rfl | rfl
      · exact con_noSp (hl e he)
      · exact noSp_itoa _
    · simp only [List.mem_singleton] at hw; subst hw; exact noSp_lit (l := [125]) (by decide)
  | cut =>
    intro w hw
    rw [show wordsB (TValue.mk 6 (ByteArray.mk #[]) 0 [] ⟨false, []⟩) = [(ByteArray.mk #[63])] by rw [wordsB_eq]; rfl] at hw
    simp only [List.mem_singleton] at hw; subst hw; exact noSp_lit (l := [63]) (by decide)
theorem check0 {v : TValue} (h : values_Check v = some 0) : values_formed v = some true ∧ ∀ d, values_depth v = some d → d ≤ 1000 := by
  rw [values_Check] at h
  obtain ⟨d, hd, h⟩ := bind_some h
  split at h
  · cases h
  rename_i h1
  obtain ⟨z, hz, h⟩ := bind_some h
  split at h
  · cases h
  obtain ⟨f, hf, h⟩ := bind_some h
  cases f with
  | false => simp at h
  | true => exact ⟨hf, fun d' hd' => by rw [hd] at hd'; injection hd' with hd'; subst hd'; simp at h1; exact h1⟩
def fault0 : TFault := TFault.mk 0 (ByteArray.mk #[]) 0 0
theorem text_size (v : TValue) (hr : v.rng) : (textB v).size + 1 ≤ 30 * v.vol := by
  obtain ⟨w, ws, hw⟩ := words_ne v
  have h1 := join_size ws w
  rw [← hw] at h1
  have h2 := (words_vol v hr).2
  have h3 : wsum (wordsB v) = ((wordsB v).map fun x => x.size + 1).sum := rfl
  have h4 : (textB v).size = (Lib.join ((wordsB v).map (·.data.toList)) [32]).length := rfl
  omega
theorem parse_text (v : TValue) (hr : v.rng) (hv : v.vol ≤ 2097152) (hc : values_Check v = some 0) : values_Parse (textB v) = some (v, fault0) := by
  obtain ⟨hf, hd⟩ := check0 hc
  have hd := hd _ (depth_dep v (by omega))
  obtain ⟨w, ws, hw⟩ := words_ne v
  have hsz := text_size v hr
  have hns := words_noSp v hf
  have hsp : Lib.splitB spB 0 (Lib.countB (textB v) spB) (textB v) = wordsB v := by
    unfold textB
    rw [hw] at hns ⊢
    exact split_join ws w hns _ rfl
  have hlen := (words_vol v hr).1
  have hrd := read_ok (wordsB v) (by omega) v hf hr hv 1 [] [] (by simp) (by omega)
  simp only [List.length_nil, Nat.zero_add] at hrd
  have hpr := print_ok v hr hv hc
  rw [values_Parse, strings_Split, gtrue _ ⟨by omega, by decide⟩]
  simp only [obind]
  rw [hsp]
  have hrd' : values_reader_value (Tvalues_reader.mk (wordsB v) 0 false) 1 = some (v, rd (wordsB v) (wordsB v).length false) := hrd
  rw [hrd']
  simp only [obind, bne_self_eq_false, Bool.or_false, Bool.false_eq_true, if_false, hc, hpr, beq_self_eq_true, Bool.not_true]
  rfl
theorem sum_mem : ∀ (l : List ByteArray) (w : ByteArray), w ∈ l → w.size ≤ (l.map fun x => x.size).sum
  | x :: l, w, h => by
    rw [List.map_cons, List.sum_cons]
    rcases List.mem_cons.1 h with rfl | h
    · omega
    · have := sum_mem l w h; omega
theorem wsum_sum : ∀ l : List ByteArray, wsum l = (l.map fun x => x.size).sum + l.length
  | [] => by simp [wsum]
  | x :: l => by rw [wsum_cons, wsum_sum l, List.map_cons, List.sum_cons, List.length_cons]; omega
theorem parse_any (s : ByteArray) (hs : s.size ≤ 20000) : ∃ r, values_Parse s = some r ∧ ((r.2 = TFault.mk 31 (ByteArray.mk #[]) 0 0) ∨ (r.2 = fault0 ∧ r.1.rng ∧ r.1.vol ≤ 2097152 ∧ values_Check r.1 = some 0 ∧ ∃ t, values_Print r.1 = some t ∧ (t.toList == s.toList) = true)) := by
  have h1 : 1 ≤ spB.size := by decide
  have hl := Lib.splitB_all spB h1 0 _ s rfl
  have hc := Lib.countB_le spB h1 _ s (Nat.le_refl _)
  have hz := split_size (Lib.countB s spB) s
  rw [values_Parse, strings_Split, gtrue _ ⟨by omega, h1⟩]
  simp only [obind]
  generalize Lib.splitB spB 0 (Lib.countB s spB) s = W at hl hz ⊢
  have hS : ∀ w ∈ W, w.size ≤ 281474976710656 := fun w hw => by have := sum_mem W w hw; omega
  obtain ⟨v, k', b', hv, h2, h3, h4, h5⟩ := value_any W (by omega) hS _ 0 (Nat.le_refl _) (by omega) false 1 (by omega)
  have hv' : values_reader_value (Tvalues_reader.mk W 0 false) 1 = some (v, rd W k' b') := hv
  rw [hv']
  simp only [obind]
  obtain ⟨c, hck⟩ := check_some v
  by_cases hb : ((rd W k' b').fbad || ((rd W k' b').fat != (((rd W k' b').fwords.length : Nat) : Int))) = true
  · simp only [hb, if_true, obind]
    exact ⟨_, rfl, .inl rfl⟩
  · have hb' : b' = false := by cases b'; rfl; exact absurd rfl hb
    obtain ⟨_, _, h6⟩ := h5 hb'
    have h7 : restW W 0 = wsum W := rfl
    rw [h7, wsum_sum] at h6
    have hvol : v.vol ≤ 2097152 := by omega
    simp only [Bool.eq_false_iff.2 hb, Bool.false_eq_true, if_false, hck, obind]
    by_cases h0 : c = 0
    · subst h0
      have hpr := print_ok v h4 hvol hck
      simp only [bne_self_eq_false, Bool.false_eq_true, if_false, hpr, obind]
      by_cases ht : ((textB v).toList == s.toList) = true
      · simp only [ht, Bool.not_true, Bool.false_eq_true, if_false]
        exact ⟨_, rfl, .inr ⟨rfl, h4, hvol, hck, _, hpr, ht⟩⟩
      · simp only [Bool.eq_false_iff.2 ht, Bool.not_false, if_true]
        exact ⟨_, rfl, .inl rfl⟩
    · have : (c != 0) = true := by simpa using h0
      simp only [this, if_true, obind]
      exact ⟨_, rfl, .inl rfl⟩
theorem k1_law (s : ByteArray) (hs : s.size ≤ 20000) : lazyclaw25_ValuesRoundTrip_k1 s = some true := by
  obtain ⟨⟨w, f⟩, hp, hr⟩ := parse_any s hs
  rw [lazyclaw25_ValuesRoundTrip_k1, hp, example_true]
  simp only at hr
  rcases hr with rfl | ⟨rfl, _, _, hc, t, ht, hts⟩
  · rfl
  · simp only [obind, fault0, beq_self_eq_true, Bool.and_true, Bool.not_true, Bool.false_eq_true, if_false, ht, hts, if_true, hc]
theorem roundtrip_law (v : TValue) (s : ByteArray) (hr : v.rng) (hv : v.vol ≤ 2097152) : lazyclaw25_ValuesRoundTrip v s = some true := by
  obtain ⟨x, hx⟩ := small_some v
  obtain ⟨c, hc⟩ := check_some v
  rw [lazyclaw25_ValuesRoundTrip, hx, example_true]
  simp only [obind]
  by_cases hb : ((!x) || (decide (((s.size : Nat) : Int) > 20000))) = true
  · rw [if_pos hb]
  · rw [if_neg hb]
    have hs : s.size ≤ 20000 := by simp at hb; omega
    rw [k1_law s hs, hc]
    simp only [obind]
    by_cases h0 : c = 0
    · subst h0
      simp only [beq_self_eq_true, if_true]
      rw [print_ok v hr hv hc, obind, parse_text v hr hv hc]
      simp only [obind, fault0, beq_self_eq_true, Bool.and_true, Bool.not_true, Bool.false_eq_true, if_false, same_eq, sameB_refl]
    · have : (c == 0) = false := by rw [beq_eq_false_iff_ne]; exact h0
      simp only [this, Bool.false_eq_true, if_false]
/-! ### data with numbers in their range, and not too much -/
theorem exc_rng {es : List E} (h : Sh tab 41 es) : ∃ e : TExc, es = e.cells ∧ inI64 e.fN := by
  obtain ⟨parts, rfl, hl, hf⟩ := sh_struct h (fs := [(9, 0), (3, 1)]) rfl
  obtain ⟨a, b, rfl⟩ := get2 hl
  obtain ⟨s, rfl, hs⟩ := sh_string (hf 0 9 0 a rfl rfl) rfl
  obtain ⟨n, rfl, hn⟩ := sh_int (hf 1 3 1 b rfl rfl) (k := .i64) rfl
  exact ⟨⟨s, n⟩, rfl, hn⟩
theorem set_rng {es : List E} (h : Sh tab 26 es) : ∃ s : TExcSet, es = s.cells ∧ ∀ e ∈ s.fList, inI64 e.fN := by
  obtain ⟨parts, rfl, hl, hf⟩ := sh_struct h (fs := [(4, 0), (24, 1)]) rfl
  obtain ⟨a, b, rfl⟩ := get2 hl
  obtain ⟨all, rfl⟩ := sh_bool (hf 0 4 0 a rfl rfl) rfl
  obtain ⟨rows, rfl, hl, hr⟩ := sh_slice (hf 1 24 1 b rfl rfl) (e := 41) rfl
  obtain ⟨l, rfl, hp⟩ := list_encP (f := TExc.cells) (p := fun e => inI64 e.fN) rows fun row hm => exc_rng (hr row hm)
  exact ⟨⟨all, l⟩, rfl, hp⟩
theorem valr_none {t : Nat} {k : TK} {es : List E} (hk : (tab.ti t).k = k) (h1 : ∀ fs, k ≠ .struct fs) (h2 : ∀ e, k ≠ .slice e) : (t = 28 → ∃ v : TValue, es = v.cells ∧ v.rng) ∧ (t = 23 → ∃ l : List TValue, es = [.sl (l.map TValue.cells)] ∧ ∀ x ∈ l, x.rng) :=
  ⟨fun ht => by subst ht; exact absurd hk.symm (h1 _), fun ht => by subst ht; exact absurd hk.symm (h2 _)⟩
theorem val_rng' {t : Nat} {es : List E} (h : Sh tab t es) : (t = 28 → ∃ v : TValue, es = v.cells ∧ v.rng) ∧ (t = 23 → ∃ l : List TValue, es = [.sl (l.map TValue.cells)] ∧ ∀ x ∈ l, x.rng) := by
  induction h with
  | bool t b h => exact valr_none h (by simp) (by simp)
  | int t k n h hn => exact valr_none h (by simp) (by simp)
  | string t s h hs => exact valr_none h (by simp) (by simp)
  | array t n e parts h hl hf => exact valr_none h (by simp) (by simp)
  | slice t e rows h hl hr ih =>
    refine ⟨fun ht => (by subst ht; cases h), fun ht => ?_⟩
    subst ht
    have he : e = 28 := by injection h with h; exact h.symm
    subst he
    obtain ⟨l, rfl, hp⟩ := list_encP (f := TValue.cells) (p := TValue.rng) rows fun row hm => by
      obtain ⟨i, hi, rfl⟩ := List.mem_iff_getElem.1 hm
      exact (ih i _ (List.getElem?_eq_getElem hi)).1 rfl
    exact ⟨l, rfl, hp⟩
  | struct t fs parts h hl hf ih =>
    refine ⟨fun ht => ?_, fun ht => (by subst ht; cases h)⟩
    subst ht
    have he : fs = [(22, 0), (9, 1), (3, 2), (23, 3), (26, 4)] := by injection h with h; exact h.symm
    subst he
    obtain ⟨a, b, c, d, e, rfl⟩ := get5 hl
    obtain ⟨op, rfl, _⟩ := sh_int (hf 0 22 0 a rfl rfl) (k := .i64) rfl
    obtain ⟨name, rfl, _⟩ := sh_string (hf 1 9 1 b rfl rfl) rfl
    obtain ⟨n, rfl, hn⟩ := sh_int (hf 2 3 2 c rfl rfl) (k := .i64) rfl
    obtain ⟨kids, rfl, hk⟩ := (ih 3 23 3 d rfl rfl).2 rfl
    obtain ⟨set, rfl, hs⟩ := set_rng (hf 4 26 4 e rfl rfl)
    exact ⟨.mk op name n kids set, by rw [TValue.cells_eq]; rfl, (rng_eq _).2 ⟨hn, hs, hk⟩⟩
theorem val_rng {es : List E} (h : Sh tab 28 es) : ∃ v : TValue, es = v.cells ∧ v.rng := (val_rng' h).1 rfl
theorem vol_bulk : ∀ v : TValue, v.vol ≤ bulkEs v.cells := by
  refine TValue.ind fun v ih => ?_
  have key : ∀ l : List TValue, (∀ x ∈ l, x.vol ≤ bulkEs x.cells) → TValue.volL l ≤ bulkRs (l.map TValue.cells) := by
    intro l
    induction l with
    | nil => intro _; simp [TValue.volL]
    | cons x l ih2 =>
      intro h
      rw [TValue.volL, List.map_cons, bulkRs]
      have := h x (by simp)
      have := ih2 fun y hy => h y (by simp [hy])
      omega
  have h2 : ∀ l : List TExc, excVol l ≤ bulkRs (l.map TExc.cells) := by
    intro l
    induction l with
    | nil => simp [excVol]
    | cons e l ih2 =>
      have : excVol (e :: l) = e.fCon.size + 1 + excVol l := by simp [excVol]
      rw [this, List.map_cons, bulkRs]
      simp only [TExc.cells, bulkEs, bulkE]
      omega
  have h1 := key _ ih
  have h3 := h2 v.fSet.fList
  rw [vol_eq, TValue.cells_eq]
  simp only [bulkEs, bulkE]
  omega
theorem valuesRoundTrip_true {a : List E} {b : E} (ha : Sh tab 28 a) (hb : Sh tab 9 [b]) (hB : bulkEs a + bulkEs [b] ≤ 1048576) : CallsA Tryd.prog 10 [.agg a, .c none b] (fun r => r = .c none (.v (.bool true))) := by
  obtain ⟨a, rfl, hr⟩ := val_rng ha
  obtain ⟨s, hs, _⟩ := sh_string hb rfl
  injection hs with hs _
  subst hs
  have hv := vol_bulk a
  have h := lazyclaw25_ValuesRoundTrip_ok a s true (roundtrip_law a s hr (by omega))
  unfold lazyclaw25_ValuesRoundTrip.M at h
  rw [TValue.cells_eq]
  exact CallsX.mono h fun d b h => h.1
end Go.Proofs.YtafniolcakiljaaDoor

