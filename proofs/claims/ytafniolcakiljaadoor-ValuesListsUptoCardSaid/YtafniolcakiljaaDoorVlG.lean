/- Part 7 of the proof: the plain law. It holds for every input, without conditions. -/
import Derived.Test.YtafniolcakiljaaDoorVlA
import Derived.Test.YtafniolcakiljaaDoorVlB
import Derived.Test.YtafniolcakiljaaDoorVlC
import Derived.Test.YtafniolcakiljaaDoorVlD
import Derived.Test.YtafniolcakiljaaDoorVlE
import Derived.Test.YtafniolcakiljaaDoorVlF
set_option linter.unusedVariables false
set_option linter.unusedSimpArgs false
set_option maxRecDepth 100000
set_option maxHeartbeats 4000000
namespace Go.Proofs.YtafniolcakiljaaDoor
open Go Go.Am

theorem exc_of {es : List E} (h : Sh tab 41 es) : ∃ e : TExc, es = e.cells := by
  obtain ⟨parts, rfl, hl, hf⟩ := sh_struct h (fs := [(9, 0), (3, 1)]) rfl
  obtain ⟨a, b, rfl⟩ := get2 hl
  obtain ⟨s, rfl, hs⟩ := sh_string (hf 0 9 0 a rfl rfl) rfl
  obtain ⟨n, rfl, hn⟩ := sh_int (hf 1 3 1 b rfl rfl) (k := .i64) rfl
  exact ⟨⟨s, n⟩, rfl⟩
theorem excs_of {es : List E} (h : Sh tab 24 es) : ∃ l : List TExc, es = [.sl (l.map TExc.cells)] := by
  obtain ⟨rows, rfl, hl, hr⟩ := sh_slice h (e := 41) rfl
  obtain ⟨l, rfl⟩ := list_enc (f := TExc.cells) rows fun row hm => exc_of (hr row hm)
  exact ⟨l, rfl⟩
theorem set_of {es : List E} (h : Sh tab 26 es) : ∃ s : TExcSet, es = s.cells := by
  obtain ⟨parts, rfl, hl, hf⟩ := sh_struct h (fs := [(4, 0), (24, 1)]) rfl
  obtain ⟨a, b, rfl⟩ := get2 hl
  obtain ⟨all, rfl⟩ := sh_bool (hf 0 4 0 a rfl rfl) rfl
  obtain ⟨l, rfl⟩ := excs_of (hf 1 24 1 b rfl rfl)
  exact ⟨⟨all, l⟩, rfl⟩
theorem val_none {t : Nat} {k : TK} {es : List E} (hk : (tab.ti t).k = k) (h1 : ∀ fs, k ≠ .struct fs) (h2 : ∀ e, k ≠ .slice e) : (t = 28 → ∃ v : TValue, es = v.cells) ∧ (t = 23 → ∃ l : List TValue, es = [.sl (l.map TValue.cells)]) :=
  ⟨fun ht => by subst ht; exact absurd hk.symm (h1 _), fun ht => by subst ht; exact absurd hk.symm (h2 _)⟩
theorem val_of' {t : Nat} {es : List E} (h : Sh tab t es) : (t = 28 → ∃ v : TValue, es = v.cells) ∧ (t = 23 → ∃ l : List TValue, es = [.sl (l.map TValue.cells)]) := by
  induction h with
  | bool t b h => exact val_none h (by simp) (by simp)
  | int t k n h hn => exact val_none h (by simp) (by simp)
  | string t s h hs => exact val_none h (by simp) (by simp)
  | array t n e parts h hl hf => exact val_none h (by simp) (by simp)
  | slice t e rows h hl hr ih =>
    refine ⟨fun ht => (by subst ht; cases h), fun ht => ?_⟩
    subst ht
    have he : e = 28 := by injection h with h; exact h.symm
    subst he
    obtain ⟨l, rfl⟩ := list_enc (f := TValue.cells) rows fun row hm => by
      obtain ⟨i, hi, rfl⟩ := List.mem_iff_getElem.1 hm
      exact (ih i _ (List.getElem?_eq_getElem hi)).1 rfl
    exact ⟨l, rfl⟩
  | struct t fs parts h hl hf ih =>
    refine ⟨fun ht => ?_, fun ht => (by subst ht; cases h)⟩
    subst ht
    have he : fs = [(22, 0), (9, 1), (3, 2), (23, 3), (26, 4)] := by injection h with h; exact h.symm
    subst he
    obtain ⟨a, b, c, d, e, rfl⟩ := get5 hl
    obtain ⟨op, rfl, _⟩ := sh_int (hf 0 22 0 a rfl rfl) (k := .i64) rfl
    obtain ⟨name, rfl, _⟩ := sh_string (hf 1 9 1 b rfl rfl) rfl
    obtain ⟨n, rfl, _⟩ := sh_int (hf 2 3 2 c rfl rfl) (k := .i64) rfl
    obtain ⟨kids, rfl⟩ := (ih 3 23 3 d rfl rfl).2 rfl
    obtain ⟨set, rfl⟩ := set_of (hf 4 26 4 e rfl rfl)
    exact ⟨.mk op name n kids set, by rw [TValue.cells_eq]; rfl⟩
theorem val_of {es : List E} (h : Sh tab 28 es) : ∃ v : TValue, es = v.cells := (val_of' h).1 rfl

end Go.Proofs.YtafniolcakiljaaDoor

set_option linter.unusedVariables false
set_option linter.unusedSimpArgs false
set_option maxRecDepth 100000
set_option maxHeartbeats 4000000
namespace Go.Proofs.YtafniolcakiljaaDoor
open Go Go.Am

theorem obind {α β : Type} (x : α) (f : α → Option β) : (some x >>= f) = f x := rfl
theorem gtrue {p : Prop} [Decidable p] {β : Type} (f : Unit → Option β) (h : p) : (guardP p >>= f) = f () := by unfold guardP; rw [if_pos h]; rfl

/-! ### exceptions in sets -/
def excEq (a b : TExc) : Bool := (a.fCon.toList == b.fCon.toList) && ((a.fN == b.fN) && true)
theorem excEq_comm (a b : TExc) : excEq a b = excEq b a := by
  unfold excEq
  have h1 : (a.fCon.toList == b.fCon.toList) = (b.fCon.toList == a.fCon.toList) := by rw [Bool.eq_iff_iff, beq_iff_eq, beq_iff_eq]; exact eq_comm
  have h2 : (a.fN == b.fN) = (b.fN == a.fN) := by rw [Bool.eq_iff_iff, beq_iff_eq, beq_iff_eq]; exact eq_comm
  rw [h1, h2]
def hasB (s : TExcSet) (e : TExc) : Bool := s.fAll || s.fList.any (excEq e)
theorem index_l (s : List TExc) (v : TExc) : ∀ (l : List TExc) (k : Nat), ∃ r, slices_Index_Exc_l1 s k v l = some r ∧ decide (r ≥ 0) = l.any (excEq v)
  | [], k => ⟨-1, by rw [slices_Index_Exc_l1], rfl⟩
  | x :: l, k => by
    rw [slices_Index_Exc_l1, List.any_cons]
    by_cases h : excEq v x = true
    · exact ⟨_, if_pos h, by rw [h]; simp⟩
    · obtain ⟨r, h1, h2⟩ := index_l s v l (k + 1)
      exact ⟨r, (if_neg h).trans h1, by rw [h2, Bool.eq_false_iff.2 h]; rfl⟩
theorem contains_eq (s : List TExc) (e : TExc) : slices_Contains_Exc s e = some (s.any (excEq e)) := by
  obtain ⟨r, h1, h2⟩ := index_l s e s 0
  rw [slices_Contains_Exc, slices_Index_Exc, h1, obind, h2]
theorem has_eq (s : TExcSet) (e : TExc) : values_Has s e = some (hasB s e) := by
  rw [values_Has, contains_eq]
  unfold hasB
  cases s.fAll <;> rfl
theorem hasr_l (s : TExcSet) (e : TExc) : ∀ (l : List TExc) (k : Nat), lazycref25_Has_l1 k s e l = some (s.fAll || l.any (excEq e))
  | [], k => by rw [lazycref25_Has_l1]; simp
  | x :: l, k => by
    rw [lazycref25_Has_l1, List.any_cons, hasr_l s e l]
    show (if excEq x e = true then _ else _) = _
    rw [excEq_comm]
    cases excEq e x
    · simp
    · simp
theorem hasr_eq (s : TExcSet) (e : TExc) : lazycref25_Has s e = some (hasB s e) := by rw [lazycref25_Has, hasr_l]; rfl
def withinB (a b : TExcSet) : Bool := if a.fAll || b.fAll then b.fAll else a.fList.all (hasB b)
theorem within_l (a b : TExcSet) : ∀ (l : List TExc) (k : Nat), values_Within_l1 a k b l = some (l.all (hasB b))
  | [], k => by rw [values_Within_l1]; rfl
  | x :: l, k => by
    rw [values_Within_l1, List.all_cons, within_l a b l, has_eq, obind]
    cases hasB b x <;> rfl
theorem within_eq (a b : TExcSet) : values_Within a b = some (withinB a b) := by
  rw [values_Within, within_l]; unfold withinB; split <;> rfl
theorem withinr_l (a b : TExcSet) : ∀ (l : List TExc) (k : Nat), lazycref25_Within_l1 k a b l = some (l.all (hasB b))
  | [], k => by rw [lazycref25_Within_l1]; rfl
  | x :: l, k => by
    rw [lazycref25_Within_l1, List.all_cons, withinr_l a b l, hasr_eq, obind]
    cases hasB b x <;> rfl
theorem withinr_eq (a b : TExcSet) : lazycref25_Within a b = some (withinB a b) := by
  rw [lazycref25_Within, withinr_l]; unfold withinB; split <;> rfl

/-! ### refinement -/
mutual
def refB : TValue → TValue → Bool
  | .mk op name n kids set, b =>
    if ((b.fOp == 6) || ((b.fOp == 5) && b.fSet.fAll)) = true then true
    else if (op != b.fOp) = true then false
    else if (b.fOp == 1) = true then n == b.fN
    else if (b.fOp == 2) = true then n == b.fN
    else if (b.fOp == 4) = true then true
    else if (b.fOp == 5) = true then withinB set b.fSet
    else if (b.fOp == 3) = true then (name.toList == b.fName.toList) && refL kids b.fKids
    else false
def refL : List TValue → List TValue → Bool
  | [], [] => true
  | x :: xs, y :: ys => refB x y && refL xs ys
  | _, _ => false
end
theorem refL_len : ∀ l m, l.length ≠ m.length → refL l m = false
  | [], [], h => absurd rfl h
  | x :: xs, y :: ys, h => by rw [refL, refL_len xs ys (by simpa using h), Bool.and_false]
  | [], _ :: _, _ => by simp [refL]
  | _ :: _, [], _ => by simp [refL]
theorem refB_eq (a b : TValue) : refB a b =
    if ((b.fOp == 6) || ((b.fOp == 5) && b.fSet.fAll)) = true then true
    else if (a.fOp != b.fOp) = true then false
    else if (b.fOp == 1) = true then a.fN == b.fN
    else if (b.fOp == 2) = true then a.fN == b.fN
    else if (b.fOp == 4) = true then true
    else if (b.fOp == 5) = true then withinB a.fSet b.fSet
    else if (b.fOp == 3) = true then (a.fName.toList == b.fName.toList) && refL a.fKids b.fKids
    else false := by cases a; rw [refB]; rfl
theorem get_mid {α : Type} {l pre post : List α} {x : α} {k : Nat} (h : l = pre ++ x :: post) (hk : k = pre.length) : l[k]? = some x := by subst h hk; simp
theorem ef_l (s1 s2 : List TValue) : ∀ (post post' pre' : List TValue) (k : Nat), (∀ x ∈ post, ∀ y, values_Refines x y = some (refB x y)) → s2 = pre' ++ post' → k = pre'.length → post.length = post'.length →
    slices_EqualFunc_Value_values_Refines_l1 s2 s1 k post = some (refL post post')
  | [], [], pre', k, _, _, _, _ => by rw [slices_EqualFunc_Value_values_Refines_l1, refL]
  | x :: post, y :: post', pre', k, h, h2, hk, hl => by
    rw [slices_EqualFunc_Value_values_Refines_l1, refL]
    simp only [get_mid h2 hk, obind, h x (by simp) y]
    cases refB x y
    · rfl
    · show slices_EqualFunc_Value_values_Refines_l1 s2 s1 (k + 1) post = _
      rw [ef_l s1 s2 post post' (pre' ++ [y]) (k + 1) (fun z hz => h z (by simp [hz])) (by rw [h2]; simp) (by rw [hk]; simp) (by simpa using hl)]; rfl
  | [], _ :: _, _, _, _, _, _, hl => by simp at hl
  | _ :: _, [], _, _, _, _, _, hl => by simp at hl
theorem refines_eq : ∀ a b : TValue, values_Refines a b = some (refB a b) := by
  refine TValue.ind fun a ih b => ?_
  have hk : ∀ t, values_Refines_k1 b t a = if t = true then some (a.fN == b.fN) else some (if (b.fOp == 4) = true then true else if (b.fOp == 5) = true then withinB a.fSet b.fSet else if (b.fOp == 3) = true then (a.fName.toList == b.fName.toList) && refL a.fKids b.fKids else false) := by
    intro t
    rw [values_Refines_k1, within_eq]
    by_cases h0 : t = true
    · rw [if_pos h0, if_pos h0]
    rw [if_neg h0, if_neg h0]
    by_cases h4 : (b.fOp == 4) = true
    · rw [if_pos h4, if_pos h4]
    rw [if_neg h4, if_neg h4]
    by_cases h5 : (b.fOp == 5) = true
    · rw [if_pos h5, if_pos h5]; rfl
    rw [if_neg h5, if_neg h5]
    by_cases h3 : (b.fOp == 3) = true
    · rw [if_pos h3, if_pos h3]
      by_cases hn : (a.fName.toList == b.fName.toList) = true
      · rw [if_pos hn, hn, slices_EqualFunc_Value_values_Refines, Bool.true_and]
        by_cases hl : a.fKids.length = b.fKids.length
        · rw [if_neg (by simp [hl]), ef_l a.fKids b.fKids a.fKids b.fKids [] 0 ih rfl rfl hl]; rfl
        · rw [if_pos (by rw [bne_iff_ne]; omega), refL_len _ _ hl]; rfl
      · rw [if_neg hn, Bool.eq_false_iff.2 hn]; rfl
    · rw [if_neg h3, if_neg h3]
  rw [values_Refines, refB_eq, hk, hk]
  by_cases h6 : ((b.fOp == 6) || ((b.fOp == 5) && b.fSet.fAll)) = true
  · rw [if_pos h6, if_pos h6]
  rw [if_neg h6, if_neg h6]
  by_cases ho : (a.fOp != b.fOp) = true
  · rw [if_pos ho, if_pos ho]
  rw [if_neg ho, if_neg ho]
  by_cases h1 : (b.fOp == 1) = true
  · rw [if_pos h1, if_pos h1, if_pos h1]
  rw [if_neg h1, if_neg h1]
  by_cases h2 : (b.fOp == 2) = true
  · rw [if_pos h2, if_pos h2]
  · rw [if_neg h2, if_neg h2]
theorem refr_l (a b : TValue) : ∀ (post post' pre' : List TValue) (k : Nat), (∀ x ∈ post, ∀ y, lazycref25_Refines x y = some (refB x y)) → b.fKids = pre' ++ post' → k = pre'.length → post.length = post'.length →
    lazycref25_Refines_l2 k a b post = some (refL post post')
  | [], [], pre', k, _, _, _, _ => by rw [lazycref25_Refines_l2, refL]
  | x :: post, y :: post', pre', k, h, h2, hk, hl => by
    rw [lazycref25_Refines_l2, refL]
    simp only [get_mid h2 hk, obind, h x (by simp) y]
    cases refB x y
    · rfl
    · show lazycref25_Refines_l2 (k + 1) a b post = _
      rw [refr_l a b post post' (pre' ++ [y]) (k + 1) (fun z hz => h z (by simp [hz])) (by rw [h2]; simp) (by rw [hk]; simp) (by simpa using hl)]; rfl
  | [], _ :: _, _, _, _, _, _, hl => by simp at hl
  | _ :: _, [], _, _, _, _, _, hl => by simp at hl
theorem refinesr_eq : ∀ a b : TValue, lazycref25_Refines a b = some (refB a b) := by
  refine TValue.ind fun a ih b => ?_
  have hk : ∀ t, lazycref25_Refines_k1 b t a = if t = true then some (a.fN == b.fN) else some (if (b.fOp == 4) = true then true else if (b.fOp == 5) = true then withinB a.fSet b.fSet else if (b.fOp == 3) = true then (a.fName.toList == b.fName.toList) && refL a.fKids b.fKids else false) := by
    intro t
    rw [lazycref25_Refines_k1, withinr_eq]
    by_cases h0 : t = true
    · rw [if_pos h0, if_pos h0]
    rw [if_neg h0, if_neg h0]
    by_cases h4 : (b.fOp == 4) = true
    · rw [if_pos h4, if_pos h4]
    rw [if_neg h4, if_neg h4]
    by_cases h5 : (b.fOp == 5) = true
    · rw [if_pos h5, if_pos h5]; rfl
    rw [if_neg h5, if_neg h5]
    by_cases h3 : (b.fOp == 3) = true
    · rw [if_pos h3, if_pos h3]
      by_cases hn : (a.fName.toList == b.fName.toList) = true
      · rw [hn, Bool.true_and]
        by_cases hl : a.fKids.length = b.fKids.length
        · rw [if_neg (by simp [hl]), refr_l a b a.fKids b.fKids [] 0 ih rfl rfl hl]
        · rw [if_pos (by rw [Bool.not_true, Bool.false_or, bne_iff_ne]; omega), refL_len _ _ hl]
      · rw [if_pos (by simp [hn]), Bool.eq_false_iff.2 hn]; rfl
    · rw [if_neg h3, if_neg h3]
  rw [lazycref25_Refines, refB_eq, hk, hk]
  by_cases h6 : ((b.fOp == 6) || ((b.fOp == 5) && b.fSet.fAll)) = true
  · rw [if_pos h6, if_pos h6]
  rw [if_neg h6, if_neg h6]
  by_cases ho : (a.fOp != b.fOp) = true
  · rw [if_pos ho, if_pos ho]
  rw [if_neg ho, if_neg ho]
  by_cases h1 : (b.fOp == 1) = true
  · rw [if_pos h1, if_pos h1, if_pos h1]
  rw [if_neg h1, if_neg h1]
  by_cases h2 : (b.fOp == 2) = true
  · rw [if_pos h2, if_pos h2]
  · rw [if_neg h2, if_neg h2]

/-! ### nodes -/
theorem nodes_l (v : TValue) : ∀ (post : List TValue) (n : Int) (k : Nat), (∀ x ∈ post, ∃ r, lazycref25_Nodes x = some r) → ∃ r, lazycref25_Nodes_l1 n k v post = some r
  | [], n, k, _ => ⟨n, by rw [lazycref25_Nodes_l1]⟩
  | x :: post, n, k, h => by
    obtain ⟨r, hr⟩ := h x (by simp)
    rw [lazycref25_Nodes_l1]
    simp only [hr, obind]
    exact nodes_l v post _ _ fun y hy => h y (by simp [hy])
theorem nodes_some : ∀ v : TValue, ∃ r, lazycref25_Nodes v = some r :=
  TValue.ind fun v ih => by rw [lazycref25_Nodes]; exact nodes_l v v.fKids 1 0 ih
theorem small_some (v : TValue) : ∃ r, lazyclaw25_small v = some r := by
  obtain ⟨n, hn⟩ := nodes_some v
  rw [lazyclaw25_small, hn]
  exact ⟨_, rfl⟩
end Go.Proofs.YtafniolcakiljaaDoor

set_option linter.unusedVariables false
set_option linter.unusedSimpArgs false
set_option maxRecDepth 100000
set_option maxHeartbeats 4000000
namespace Go.Proofs.YtafniolcakiljaaDoor
open Go Go.Am

/-! ### refinement is transitive -/
theorem excEq_iff (a b : TExc) : excEq a b = true ↔ a.fCon.toList = b.fCon.toList ∧ a.fN = b.fN := by
  unfold excEq; simp
theorem excEq_trans {a b c : TExc} (h : excEq a b = true) (k : excEq b c = true) : excEq a c = true := by
  rw [excEq_iff] at *; exact ⟨h.1.trans k.1, h.2.trans k.2⟩
theorem excEq_refl (a : TExc) : excEq a a = true := by rw [excEq_iff]; exact ⟨rfl, rfl⟩
theorem withinB_refl (a : TExcSet) : withinB a a = true := by
  unfold withinB
  cases h : a.fAll
  · simp only [Bool.or_self, Bool.false_eq_true, if_false]
    rw [List.all_eq_true]
    intro e he
    unfold hasB
    rw [Bool.or_eq_true]; right
    exact List.any_eq_true.2 ⟨e, he, excEq_refl e⟩
  · simp
theorem withinB_trans {a b c : TExcSet} (h : withinB a b = true) (k : withinB b c = true) : withinB a c = true := by
  unfold withinB at *
  cases ha : a.fAll <;> cases hb : b.fAll <;> cases hc : c.fAll <;> simp only [ha, hb, hc, Bool.or_self, Bool.or_true, Bool.true_or, Bool.false_or, Bool.or_false, if_true, Bool.false_eq_true, if_false] at h k ⊢
  · rw [List.all_eq_true] at *
    intro e he
    have h1 := h e he
    unfold hasB at h1
    rw [hb, Bool.false_or, List.any_eq_true] at h1
    obtain ⟨e', he', h2⟩ := h1
    have h3 := k e' he'
    unfold hasB at h3 ⊢
    rw [hc, Bool.false_or, List.any_eq_true] at h3 ⊢
    obtain ⟨e'', he'', h4⟩ := h3
    exact ⟨e'', he'', excEq_trans h2 h4⟩
  all_goals first | exact k | exact h | simp_all
theorem refL_trans : ∀ l m n : List TValue, (∀ x ∈ l, ∀ y z, refB x y = true → refB y z = true → refB x z = true) → refL l m = true → refL m n = true → refL l n = true
  | [], [], [], _, _, _ => by simp [refL]
  | x :: l, y :: m, z :: n, ih, h, k => by
    rw [refL, Bool.and_eq_true] at *
    exact ⟨ih x (by simp) y z h.1 k.1, refL_trans l m n (fun x' hx' => ih x' (by simp [hx'])) h.2 k.2⟩
  | [], _ :: _, _, _, h, _ => by simp [refL] at h
  | _ :: _, [], _, _, h, _ => by simp [refL] at h
  | [], [], _ :: _, _, _, k => by simp [refL] at k
  | _ :: _, _ :: _, [], _, _, k => by simp [refL] at k
theorem refB_trans : ∀ a b c : TValue, refB a b = true → refB b c = true → refB a c = true := by
  refine TValue.ind fun a ih b c hab hbc => ?_
  rw [refB_eq] at hab hbc ⊢
  by_cases h6 : ((c.fOp == 6) || ((c.fOp == 5) && c.fSet.fAll)) = true
  · rw [if_pos h6]
  rw [if_neg h6] at hbc ⊢
  by_cases ho : (b.fOp != c.fOp) = true
  · rw [if_pos ho] at hbc; cases hbc
  rw [if_neg ho] at hbc
  have hop : b.fOp = c.fOp := by simpa using ho
  have hb6 : ¬ ((b.fOp == 6) || ((b.fOp == 5) && b.fSet.fAll)) = true := by
    intro hh
    rw [hop] at hh
    have hc6 : ¬ c.fOp = 6 := fun e => h6 (by simp [e])
    have h5 : c.fOp = 5 ∧ b.fSet.fAll = true := by simpa [hc6] using hh
    have hcA : c.fSet.fAll = false := by
      cases hA : c.fSet.fAll
      · rfl
      · exact absurd (by simp [h5.1, hA]) h6
    simp [h5.1, withinB, h5.2, hcA] at hbc
  rw [if_neg hb6] at hab
  by_cases ha : (a.fOp != b.fOp) = true
  · rw [if_pos ha] at hab; cases hab
  rw [if_neg ha] at hab
  rw [hop] at hab
  have hac : a.fOp = c.fOp := by rw [← hop]; simpa using ha
  rw [if_neg (by simp [hac])]
  by_cases h1 : (c.fOp == 1) = true
  · rw [if_pos h1] at *; rw [beq_iff_eq] at *; exact hab.trans hbc
  rw [if_neg h1] at hab hbc ⊢
  by_cases h2 : (c.fOp == 2) = true
  · rw [if_pos h2] at *; rw [beq_iff_eq] at *; exact hab.trans hbc
  rw [if_neg h2] at hab hbc ⊢
  by_cases h4 : (c.fOp == 4) = true
  · rw [if_pos h4]
  rw [if_neg h4] at hab hbc ⊢
  by_cases h5 : (c.fOp == 5) = true
  · rw [if_pos h5] at *; exact withinB_trans hab hbc
  rw [if_neg h5] at hab hbc ⊢
  by_cases h3 : (c.fOp == 3) = true
  · rw [if_pos h3] at *
    rw [Bool.and_eq_true, beq_iff_eq] at *
    exact ⟨hab.1.trans hbc.1, refL_trans _ _ _ ih hab.2 hbc.2⟩
  · rw [if_neg h3] at hab; cases hab
end Go.Proofs.YtafniolcakiljaaDoor

set_option linter.unusedVariables false
set_option linter.unusedSimpArgs false
set_option maxRecDepth 100000
set_option maxHeartbeats 4000000
namespace Go.Proofs.YtafniolcakiljaaDoor
open Go Go.Am

/-! ### answers that are there -/
def Tot {α : Type} (x : Option α) : Prop := ∃ r, x = some r
theorem tot_some {α : Type} (x : α) : Tot (some x) := ⟨x, rfl⟩
theorem tot_if {α : Type} {c : Prop} [Decidable c] {x y : Option α} (h : c → Tot x) (k : ¬ c → Tot y) : Tot (if c then x else y) := by
  by_cases hc : c
  · rw [if_pos hc]; exact h hc
  · rw [if_neg hc]; exact k hc
theorem tot_bind {α β : Type} {x : Option α} {f : α → Option β} (h : Tot x) (k : ∀ r, x = some r → Tot (f r)) : Tot (x >>= f) := by
  obtain ⟨r, hr⟩ := h
  have := k r hr
  rw [hr]; exact this
theorem tot_guard {p : Prop} [Decidable p] {β : Type} {f : Unit → Option β} (h : p) (k : Tot (f ())) : Tot (guardP p >>= f) := by rw [gtrue f h]; exact k
theorem bt_in {s : ByteArray} {k : Nat} (h : k < s.size) : Tot (btI s ((k : Nat) : Int)) := by
  unfold btI
  rw [if_pos (Int.natCast_nonneg k)]
  exact ⟨s[k], getElem?_pos s k h⟩
theorem bt_in0 {s : ByteArray} (h : 0 < s.size) : Tot (btI s 0) := bt_in (k := 0) h

theorem con_l (s : ByteArray) (hs : s.size ≤ 129) (h0 : 0 < s.size) : ∀ (d k : Nat), s.size - k = d → Tot (values_constructor_l1 s k) := by
  intro d
  induction d with
  | zero =>
    intro k hk
    rw [values_constructor_l1, if_neg (by simp; omega)]
    refine tot_bind (bt_in0 h0) fun y hy => ?_
    simp only [hy, obind]
    refine tot_bind (tot_if (fun _ => tot_some _) fun _ => tot_some _) fun c1 _ => tot_bind (tot_if (fun _ => tot_some _) fun _ => tot_some _) fun c2 _ => tot_bind (tot_if (fun _ => tot_some _) fun _ => tot_some _) fun c3 _ => tot_bind (tot_if (fun _ => tot_some _) fun _ => tot_some _) fun c4 _ => tot_some _
  | succ d ih =>
    intro k hk
    have hlt : k < s.size := by omega
    rw [values_constructor_l1, if_pos (by simpa using hlt)]
    refine tot_bind (bt_in hlt) fun y hy => ?_
    simp only [hy, obind]
    refine tot_bind (tot_if (fun _ => tot_some _) fun _ => tot_some _) fun c1 _ => tot_if (fun _ => tot_some _) fun _ => tot_guard (by omega) (ih (k + 1) (by omega))
theorem toList_size (s : ByteArray) : s.toList = s.data.toList := by
  have key : ∀ (n i : Nat) (r : List UInt8), s.size - i = n → ByteArray.toList.loop s i r = r.reverse ++ s.data.toList.drop i := by
    intro n
    induction n with
    | zero =>
      intro i r h
      rw [ByteArray.toList.loop, if_neg (by omega), List.drop_eq_nil_of_le (by show s.data.toList.length ≤ i; simp; have : s.data.size = s.size := rfl; omega), List.append_nil]
    | succ n ih =>
      intro i r h
      have hi : i < s.size := by omega
      rw [ByteArray.toList.loop, if_pos hi, ih (i + 1) _ (by omega)]
      have hd : s.data.toList.drop i = s.data.toList[i]'(by simpa using hi) :: s.data.toList.drop (i + 1) := (List.drop_eq_getElem_cons (by simpa using hi))
      rw [hd]
      have : s.get! i = s.data.toList[i]'(by simpa using hi) := by
        have hi' : i < s.data.size := hi
        show s.data[i]! = _
        rw [getElem!_pos s.data i hi']; simp
      rw [this]; simp
  have := key s.size 0 [] (by omega)
  simpa [ByteArray.toList] using this
theorem con_some (s : ByteArray) : Tot (values_constructor s) := by
  rw [values_constructor]
  refine tot_if (fun _ => tot_some _) fun h => ?_
  simp only [Bool.or_eq_true, decide_eq_true_eq, beq_iff_eq, not_or] at h
  refine con_l s (by omega) ?_ _ 0 rfl
  rcases Nat.eq_zero_or_pos s.size with h0 | h0
  · exfalso
    apply h.1.1
    rw [toList_size, toList_size]
    have : s.data.size = 0 := h0
    simp [Array.eq_empty_of_size_eq_zero this]
  · exact h0
theorem compare_some (a b : TExc) : Tot (values_compare a b) := by
  rw [values_compare, strings_Compare]
  simp only [obind]
  exact tot_if (fun _ => tot_some _) fun _ => tot_if (fun _ => tot_some _) fun _ => tot_if (fun _ => tot_some _) fun _ => tot_some _
theorem i64_small {n : Int} (h : 0 ≤ n) (k : n ≤ 9223372036854775807) : IntKind.i64.wrap n = n := IntWalk.i64_in n ⟨by omega, by omega⟩
theorem valid_l (s : TExcSet) (hs : s.fList.length ≤ 16) : ∀ (post pre : List TExc) (k : Nat), s.fList = pre ++ post → k = pre.length → Tot (values_validSet_l1 s k post)
  | [], pre, k, _, _ => by rw [values_validSet_l1]; exact tot_some _
  | x :: post, pre, k, h, hk => by
    rw [values_validSet_l1]
    have hlen : k < s.fList.length := by rw [h, hk]; simp
    refine tot_bind (con_some _) fun r _ => tot_bind (tot_if (fun _ => tot_some _) fun _ => tot_bind (tot_if (fun hp => ?_) fun _ => tot_some _) fun _ _ => tot_some _) fun c _ => tot_if (fun _ => tot_some _) fun _ => valid_l s hs post (pre ++ [x]) (k + 1) (by rw [h]; simp) (by rw [hk]; simp)
    have hp : 0 < k := by simpa using hp
    refine tot_bind ?_ fun y _ => tot_bind (compare_some _ _) fun _ _ => tot_some _
    rw [i64_small (by omega) (by omega)]
    unfold ixI
    rw [if_pos (by omega)]
    exact ⟨_, List.getElem?_eq_getElem (by omega)⟩
theorem validSet_some (s : TExcSet) : Tot (values_validSet s) := by
  rw [values_validSet]
  exact tot_if (fun _ => tot_some _) fun _ => tot_if (fun _ => tot_some _) fun h => valid_l s (by simp at h; omega) s.fList [] 0 rfl rfl
theorem depth_some : ∀ v : TValue, Tot (values_depth v) := by
  refine TValue.ind fun v ih => ?_
  rw [values_depth]
  have key : ∀ (post : List TValue) (n : Int) (k : Nat), (∀ x ∈ post, Tot (values_depth x)) → Tot (values_depth_l1 n v k post) := by
    intro post
    induction post with
    | nil => intro n k _; rw [values_depth_l1]; exact tot_some _
    | cons x post ih2 => intro n k h; rw [values_depth_l1]; exact tot_bind (h x (by simp)) fun r _ => ih2 _ _ fun y hy => h y (by simp [hy])
  exact key _ _ _ ih
theorem size_some : ∀ v : TValue, Tot (values_size v) := by
  refine TValue.ind fun v ih => ?_
  rw [values_size]
  have key : ∀ (post : List TValue) (n : Int) (k : Nat), (∀ x ∈ post, Tot (values_size x)) → Tot (values_size_l1 n v k post) := by
    intro post
    induction post with
    | nil => intro n k _; rw [values_size_l1]; exact tot_some _
    | cons x post ih2 => intro n k h; rw [values_size_l1]; exact tot_bind (h x (by simp)) fun r _ => ih2 _ _ fun y hy => h y (by simp [hy])
  exact key _ _ _ ih
theorem noSet_some (s : TExcSet) : Tot (values_noSet s) := by rw [values_noSet]; exact tot_some _
theorem formed_some : ∀ v : TValue, Tot (values_formed v) := by
  refine TValue.ind fun v ih => ?_
  have key : ∀ (post : List TValue) (k : Nat), (∀ x ∈ post, Tot (values_formed x)) → Tot (values_formed_l2 v k post) := by
    intro post
    induction post with
    | nil => intro k _; rw [values_formed_l2]; exact tot_bind (con_some _) fun _ _ => tot_some _
    | cons x post ih2 => intro k h; rw [values_formed_l2]; exact tot_bind (h x (by simp)) fun r _ => tot_if (fun _ => tot_some _) fun _ => ih2 _ fun y hy => h y (by simp [hy])
  have k1 : ∀ t, Tot (values_formed_k1 v t) := by
    intro t
    rw [values_formed_k1]
    exact tot_if (fun _ => tot_some _) fun _ => tot_if (fun _ => tot_some _) fun _ => tot_if (fun _ => tot_bind (validSet_some _) fun _ _ => tot_some _) fun _ => tot_if (fun _ => key _ _ ih) fun _ => tot_some _
  rw [values_formed]
  exact tot_bind (tot_if (fun _ => tot_some _) fun _ => tot_bind (tot_if (fun _ => tot_bind (noSet_some _) fun _ _ => tot_some _) fun _ => tot_some _) fun _ _ => tot_some _) fun _ _ => tot_if (fun _ => tot_some _) fun _ => tot_if (fun _ => k1 _) fun _ => tot_if (fun _ => k1 _) fun _ => k1 _
theorem check_some (v : TValue) : Tot (values_Check v) := by
  rw [values_Check]
  exact tot_bind (depth_some v) fun _ _ => tot_if (fun _ => tot_some _) fun _ => tot_bind (size_some v) fun _ _ => tot_if (fun _ => tot_some _) fun _ => tot_bind (formed_some v) fun _ _ => tot_if (fun _ => tot_some _) fun _ => tot_some _
/-! ### a formed value refines itself -/
theorem formed_refl : ∀ v : TValue, values_formed v = some true → refB v v = true := by
  refine TValue.ind fun v ih h => ?_
  have key : ∀ (post : List TValue) (k : Nat), (∀ x ∈ post, values_formed x = some true → refB x x = true) → values_formed_l2 v k post = some true → refL post post = true := by
    intro post
    induction post with
    | nil => intro k _ _; rw [refL]
    | cons x post ih2 =>
      intro k hp h
      rw [values_formed_l2] at h
      obtain ⟨r, hr, h⟩ := bind_some h
      cases r
      · simp at h
      · rw [refL, hp x (by simp) hr, Bool.true_and]
        exact ih2 (k + 1) (fun y hy => hp y (by simp [hy])) (by simpa using h)
  have k1 : ∀ t, (t = true → v.fOp = 1 ∨ v.fOp = 4 ∨ v.fOp = 6) → values_formed_k1 v t = some true → refB v v = true := by
    intro t ht h
    rw [values_formed_k1] at h
    rw [refB_eq]
    by_cases h6 : ((v.fOp == 6) || ((v.fOp == 5) && v.fSet.fAll)) = true
    · rw [if_pos h6]
    rw [if_neg h6, if_neg (by simp)]
    by_cases h1 : (v.fOp == 1) = true
    · rw [if_pos h1]; simp
    rw [if_neg h1]
    by_cases h2 : (v.fOp == 2) = true
    · rw [if_pos h2]; simp
    rw [if_neg h2]
    by_cases h4 : (v.fOp == 4) = true
    · rw [if_pos h4]
    rw [if_neg h4]
    by_cases h5 : (v.fOp == 5) = true
    · rw [if_pos h5]; exact withinB_refl _
    rw [if_neg h5]
    by_cases h3 : (v.fOp == 3) = true
    · rw [if_pos h3]
      have htf : t = false := by
        cases t
        · rfl
        · rcases ht rfl with e | e | e
          · simp [e] at h1
          · simp [e] at h4
          · simp [e] at h6
      rw [htf, if_neg (by simp), if_neg h2, if_neg h5, if_pos h3] at h
      rw [key _ _ ih h]; simp
    · exfalso
      have htf : t = false := by
        cases t
        · rfl
        · rcases ht rfl with e | e | e
          · simp [e] at h1
          · simp [e] at h4
          · simp [e] at h6
      rw [htf, if_neg (by simp), if_neg h2, if_neg h5, if_neg h3] at h
      cases h
  rw [values_formed] at h
  obtain ⟨c, hc, h⟩ := bind_some h
  cases c
  · rw [if_neg (by simp)] at h
    by_cases h1 : (v.fOp == 1) = true
    · rw [if_pos h1] at h; exact k1 _ (fun _ => .inl (by simpa using h1)) h
    rw [if_neg h1] at h
    by_cases h4 : (v.fOp == 4) = true
    · rw [if_pos h4] at h; exact k1 _ (fun _ => .inr (.inl (by simpa using h4))) h
    rw [if_neg h4] at h
    exact k1 _ (fun e => .inr (.inr (by simpa using e))) h
  · rw [if_pos rfl] at h; cases h
theorem check_refl (v : TValue) (h : values_Check v = some 0) : refB v v = true := by
  rw [values_Check] at h
  obtain ⟨d, hd, h⟩ := bind_some h
  by_cases h1 : decide (d > 1000) = true
  · rw [if_pos h1] at h; cases h
  rw [if_neg h1] at h
  obtain ⟨s, hs, h⟩ := bind_some h
  by_cases h2 : decide (s > 60000) = true
  · rw [if_pos h2] at h; cases h
  rw [if_neg h2] at h
  obtain ⟨f, hf, h⟩ := bind_some h
  cases f
  · simp at h
  · exact formed_refl v hf
end Go.Proofs.YtafniolcakiljaaDoor

set_option linter.unusedVariables false
set_option linter.unusedSimpArgs false
set_option maxRecDepth 100000
set_option maxHeartbeats 4000000
namespace Go.Proofs.YtafniolcakiljaaDoor
open Go Go.Am

/-! ### data whose lists and strings are of a size that there is -/
def TExcSet.ok (s : TExcSet) : Prop := s.fList.length ≤ maxLen ∧ ∀ e ∈ s.fList, e.fCon.size ≤ maxLen
mutual
def TValue.ok : TValue → Prop
  | .mk _ name _ kids set => name.size ≤ maxLen ∧ kids.length ≤ maxLen ∧ set.ok ∧ TValue.okL kids
def TValue.okL : List TValue → Prop
  | [] => True
  | x :: xs => x.ok ∧ TValue.okL xs
end
theorem okL_iff : ∀ l : List TValue, TValue.okL l ↔ ∀ x ∈ l, x.ok
  | [] => by simp [TValue.okL]
  | x :: xs => by simp [TValue.okL, okL_iff xs]
theorem ok_eq (v : TValue) : v.ok ↔ v.fName.size ≤ maxLen ∧ v.fKids.length ≤ maxLen ∧ v.fSet.ok ∧ ∀ x ∈ v.fKids, x.ok := by
  cases v; rw [TValue.ok, okL_iff]; rfl
theorem list_encP {α : Type} {f : α → List E} {p : α → Prop} : ∀ rows : List (List E), (∀ row ∈ rows, ∃ x, row = f x ∧ p x) → ∃ l : List α, rows = l.map f ∧ ∀ x ∈ l, p x
  | [], _ => ⟨[], rfl, fun x h => by simp at h⟩
  | row :: rows, h => by
    obtain ⟨x, hx, hp⟩ := h row (by simp)
    obtain ⟨l, hl, hq⟩ := list_encP rows fun r hr => h r (by simp [hr])
    exact ⟨x :: l, by rw [hx, hl]; rfl, fun y hy => by rcases List.mem_cons.1 hy with rfl | hy; exact hp; exact hq y hy⟩
theorem exc_ok {es : List E} (h : Sh tab 41 es) : ∃ e : TExc, es = e.cells ∧ e.fCon.size ≤ maxLen := by
  obtain ⟨parts, rfl, hl, hf⟩ := sh_struct h (fs := [(9, 0), (3, 1)]) rfl
  obtain ⟨a, b, rfl⟩ := get2 hl
  obtain ⟨s, rfl, hs⟩ := sh_string (hf 0 9 0 a rfl rfl) rfl
  obtain ⟨n, rfl, hn⟩ := sh_int (hf 1 3 1 b rfl rfl) (k := .i64) rfl
  exact ⟨⟨s, n⟩, rfl, hs⟩
theorem set_ok {es : List E} (h : Sh tab 26 es) : ∃ s : TExcSet, es = s.cells ∧ s.ok := by
  obtain ⟨parts, rfl, hl, hf⟩ := sh_struct h (fs := [(4, 0), (24, 1)]) rfl
  obtain ⟨a, b, rfl⟩ := get2 hl
  obtain ⟨all, rfl⟩ := sh_bool (hf 0 4 0 a rfl rfl) rfl
  obtain ⟨rows, rfl, hl, hr⟩ := sh_slice (hf 1 24 1 b rfl rfl) (e := 41) rfl
  obtain ⟨l, rfl, hp⟩ := list_encP (f := TExc.cells) (p := fun e => e.fCon.size ≤ maxLen) rows fun row hm => exc_ok (hr row hm)
  exact ⟨⟨all, l⟩, rfl, by simpa using hl, hp⟩
theorem valk_none {t : Nat} {k : TK} {es : List E} (hk : (tab.ti t).k = k) (h1 : ∀ fs, k ≠ .struct fs) (h2 : ∀ e, k ≠ .slice e) : (t = 28 → ∃ v : TValue, es = v.cells ∧ v.ok) ∧ (t = 23 → ∃ l : List TValue, es = [.sl (l.map TValue.cells)] ∧ l.length ≤ maxLen ∧ ∀ x ∈ l, x.ok) :=
  ⟨fun ht => by subst ht; exact absurd hk.symm (h1 _), fun ht => by subst ht; exact absurd hk.symm (h2 _)⟩
theorem val_ok' {t : Nat} {es : List E} (h : Sh tab t es) : (t = 28 → ∃ v : TValue, es = v.cells ∧ v.ok) ∧ (t = 23 → ∃ l : List TValue, es = [.sl (l.map TValue.cells)] ∧ l.length ≤ maxLen ∧ ∀ x ∈ l, x.ok) := by
  induction h with
  | bool t b h => exact valk_none h (by simp) (by simp)
  | int t k n h hn => exact valk_none h (by simp) (by simp)
  | string t s h hs => exact valk_none h (by simp) (by simp)
  | array t n e parts h hl hf => exact valk_none h (by simp) (by simp)
  | slice t e rows h hl hr ih =>
    refine ⟨fun ht => (by subst ht; cases h), fun ht => ?_⟩
    subst ht
    have he : e = 28 := by injection h with h; exact h.symm
    subst he
    obtain ⟨l, rfl, hp⟩ := list_encP (f := TValue.cells) (p := TValue.ok) rows fun row hm => by
      obtain ⟨i, hi, rfl⟩ := List.mem_iff_getElem.1 hm
      exact (ih i _ (List.getElem?_eq_getElem hi)).1 rfl
    exact ⟨l, rfl, by simpa using hl, hp⟩
  | struct t fs parts h hl hf ih =>
    refine ⟨fun ht => ?_, fun ht => (by subst ht; cases h)⟩
    subst ht
    have he : fs = [(22, 0), (9, 1), (3, 2), (23, 3), (26, 4)] := by injection h with h; exact h.symm
    subst he
    obtain ⟨a, b, c, d, e, rfl⟩ := get5 hl
    obtain ⟨op, rfl, _⟩ := sh_int (hf 0 22 0 a rfl rfl) (k := .i64) rfl
    obtain ⟨name, rfl, hn⟩ := sh_string (hf 1 9 1 b rfl rfl) rfl
    obtain ⟨n, rfl, _⟩ := sh_int (hf 2 3 2 c rfl rfl) (k := .i64) rfl
    obtain ⟨kids, rfl, hk1, hk2⟩ := (ih 3 23 3 d rfl rfl).2 rfl
    obtain ⟨set, rfl, hs⟩ := set_ok (hf 4 26 4 e rfl rfl)
    exact ⟨.mk op name n kids set, by rw [TValue.cells_eq]; rfl, (ok_eq _).2 ⟨hn, hk1, hs, hk2⟩⟩
theorem val_ok {es : List E} (h : Sh tab 28 es) : ∃ v : TValue, es = v.cells ∧ v.ok := (val_ok' h).1 rfl
end Go.Proofs.YtafniolcakiljaaDoor

set_option linter.unusedVariables false
set_option linter.unusedSimpArgs false
set_option maxRecDepth 100000
set_option maxHeartbeats 4000000
namespace Go.Proofs.YtafniolcakiljaaDoor
open Go Go.Am
/-! ### the two Same -/
def excsB : List TExc → List TExc → Bool
  | [], [] => true
  | x :: xs, y :: ys => excEq x y && excsB xs ys
  | _, _ => false
theorem excsB_len : ∀ l m, l.length ≠ m.length → excsB l m = false
  | [], [], h => absurd rfl h
  | x :: xs, y :: ys, h => by rw [excsB, excsB_len xs ys (by simpa using h), Bool.and_false]
  | [], _ :: _, _ => by simp [excsB]
  | _ :: _, [], _ => by simp [excsB]
theorem excsB_refl : ∀ l, excsB l l = true
  | [] => rfl
  | x :: xs => by rw [excsB, excEq_refl, excsB_refl xs]; rfl
theorem eqx_l (s1 s2 : List TExc) : ∀ (post post' pre' : List TExc) (k : Nat), s2 = pre' ++ post' → k = pre'.length → post.length = post'.length → slices_Equal_Exc_l1 s1 s2 k post = some (excsB post post')
  | [], [], pre', k, _, _, _ => by rw [slices_Equal_Exc_l1]; rfl
  | x :: post, y :: post', pre', k, h2, hk, hl => by
    rw [slices_Equal_Exc_l1, excsB]
    simp only [get_mid h2 hk, obind]
    show (if (!excEq x y) = true then _ else _) = _
    cases excEq x y
    · rfl
    · show slices_Equal_Exc_l1 s1 s2 (k + 1) post = _
      rw [eqx_l s1 s2 post post' (pre' ++ [y]) (k + 1) (by rw [h2]; simp) (by rw [hk]; simp) (by simpa using hl)]; rfl
  | [], _ :: _, _, _, _, _, hl => by simp at hl
  | _ :: _, [], _, _, _, _, hl => by simp at hl
theorem eqx_eq (a b : List TExc) : slices_Equal_Exc a b = some (excsB a b) := by
  rw [slices_Equal_Exc]
  by_cases hl : a.length = b.length
  · rw [if_neg (by simp [hl]), eqx_l a b a b [] 0 rfl rfl hl]
  · rw [if_pos (by rw [bne_iff_ne]; omega), excsB_len _ _ hl]
theorem sset_l (a b : TExcSet) : ∀ (post post' pre' : List TExc) (k : Nat), b.fList = pre' ++ post' → k = pre'.length → post.length = post'.length → lazycref25_SameSet_l1 k a b post = some (excsB post post')
  | [], [], pre', k, _, _, _ => by rw [lazycref25_SameSet_l1]; rfl
  | x :: post, y :: post', pre', k, h2, hk, hl => by
    rw [lazycref25_SameSet_l1, excsB]
    simp only [get_mid h2 hk, obind]
    show (if (!excEq x y) = true then _ else _) = _
    cases excEq x y
    · rfl
    · show lazycref25_SameSet_l1 (k + 1) a b post = _
      rw [sset_l a b post post' (pre' ++ [y]) (k + 1) (by rw [h2]; simp) (by rw [hk]; simp) (by simpa using hl)]; rfl
  | [], _ :: _, _, _, _, _, hl => by simp at hl
  | _ :: _, [], _, _, _, _, hl => by simp at hl
theorem sset_eq (a b : TExcSet) : lazycref25_SameSet a b = some ((a.fAll == b.fAll) && excsB a.fList b.fList) := by
  rw [lazycref25_SameSet]
  by_cases hA : a.fAll == b.fAll
  · rw [hA]
    by_cases hl : a.fList.length = b.fList.length
    · rw [if_neg (by simp [hl]), sset_l a b a.fList b.fList [] 0 rfl rfl hl]; rfl
    · rw [if_pos (by rw [Bool.not_true, Bool.false_or, bne_iff_ne]; omega), excsB_len _ _ hl]; rfl
  · rw [if_pos (by simp [hA]), Bool.eq_false_iff.2 hA]; rfl
end Go.Proofs.YtafniolcakiljaaDoor

set_option linter.unusedVariables false
set_option linter.unusedSimpArgs false
set_option maxRecDepth 100000
set_option maxHeartbeats 4000000
namespace Go.Proofs.YtafniolcakiljaaDoor
open Go Go.Am
mutual
def sameB : TValue → TValue → Bool
  | .mk op name n kids set, b => ((((op == b.fOp) && (name.toList == b.fName.toList)) && (n == b.fN)) && ((set.fAll == b.fSet.fAll) && excsB set.fList b.fSet.fList)) && sameL kids b.fKids
def sameL : List TValue → List TValue → Bool
  | [], [] => true
  | x :: xs, y :: ys => sameB x y && sameL xs ys
  | _, _ => false
end
theorem sameB_eq (a b : TValue) : sameB a b = (((((a.fOp == b.fOp) && (a.fName.toList == b.fName.toList)) && (a.fN == b.fN)) && ((a.fSet.fAll == b.fSet.fAll) && excsB a.fSet.fList b.fSet.fList)) && sameL a.fKids b.fKids) := by cases a; rw [sameB]; rfl
theorem sameL_len : ∀ l m, l.length ≠ m.length → sameL l m = false
  | [], [], h => absurd rfl h
  | x :: xs, y :: ys, h => by rw [sameL, sameL_len xs ys (by simpa using h), Bool.and_false]
  | [], _ :: _, _ => by simp [sameL]
  | _ :: _, [], _ => by simp [sameL]
theorem efs_l (s1 s2 : List TValue) : ∀ (post post' pre' : List TValue) (k : Nat), (∀ x ∈ post, ∀ y, values_Same x y = some (sameB x y)) → s2 = pre' ++ post' → k = pre'.length → post.length = post'.length →
    slices_EqualFunc_Value_values_Same_l1 s2 s1 k post = some (sameL post post')
  | [], [], pre', k, _, _, _, _ => by rw [slices_EqualFunc_Value_values_Same_l1, sameL]
  | x :: post, y :: post', pre', k, h, h2, hk, hl => by
    rw [slices_EqualFunc_Value_values_Same_l1, sameL]
    simp only [get_mid h2 hk, obind, h x (by simp) y]
    cases sameB x y
    · rfl
    · show slices_EqualFunc_Value_values_Same_l1 s2 s1 (k + 1) post = _
      rw [efs_l s1 s2 post post' (pre' ++ [y]) (k + 1) (fun z hz => h z (by simp [hz])) (by rw [h2]; simp) (by rw [hk]; simp) (by simpa using hl)]; rfl
  | [], _ :: _, _, _, _, _, _, hl => by simp at hl
  | _ :: _, [], _, _, _, _, _, hl => by simp at hl
theorem same_eq : ∀ a b : TValue, values_Same a b = some (sameB a b) := by
  refine TValue.ind fun a ih b => ?_
  have hk : slices_EqualFunc_Value_values_Same a.fKids b.fKids = some (sameL a.fKids b.fKids) := by
    rw [slices_EqualFunc_Value_values_Same]
    by_cases hl : a.fKids.length = b.fKids.length
    · rw [if_neg (by simp [hl]), efs_l a.fKids b.fKids a.fKids b.fKids [] 0 ih rfl rfl hl]
    · rw [if_pos (by rw [bne_iff_ne]; omega), sameL_len _ _ hl]
  rw [values_Same, hk, eqx_eq, sameB_eq]
  simp only [obind]
  cases (a.fOp == b.fOp) <;> cases (a.fName.toList == b.fName.toList) <;> cases (a.fN == b.fN) <;> cases (a.fSet.fAll == b.fSet.fAll) <;> cases excsB a.fSet.fList b.fSet.fList <;> cases sameL a.fKids b.fKids <;> rfl
end Go.Proofs.YtafniolcakiljaaDoor

set_option linter.unusedVariables false
set_option linter.unusedSimpArgs false
set_option maxRecDepth 100000
set_option maxHeartbeats 4000000
namespace Go.Proofs.YtafniolcakiljaaDoor
open Go Go.Am
theorem samr_l (a b : TValue) : ∀ (post post' pre' : List TValue) (k : Nat), (∀ x ∈ post, ∀ y, lazycref25_Same x y = some (sameB x y)) → b.fKids = pre' ++ post' → k = pre'.length → post.length = post'.length →
    lazycref25_Same_l1 k a b post = some (sameL post post')
  | [], [], pre', k, _, _, _, _ => by rw [lazycref25_Same_l1, sameL]
  | x :: post, y :: post', pre', k, h, h2, hk, hl => by
    rw [lazycref25_Same_l1, sameL]
    simp only [get_mid h2 hk, obind, h x (by simp) y]
    cases sameB x y
    · rfl
    · show lazycref25_Same_l1 (k + 1) a b post = _
      rw [samr_l a b post post' (pre' ++ [y]) (k + 1) (fun z hz => h z (by simp [hz])) (by rw [h2]; simp) (by rw [hk]; simp) (by simpa using hl)]; rfl
  | [], _ :: _, _, _, _, _, _, hl => by simp at hl
  | _ :: _, [], _, _, _, _, _, hl => by simp at hl
theorem samer_eq : ∀ a b : TValue, lazycref25_Same a b = some (sameB a b) := by
  refine TValue.ind fun a ih b => ?_
  rw [lazycref25_Same, sset_eq, sameB_eq]
  simp only [obind]
  by_cases hl : a.fKids.length = b.fKids.length
  · rw [samr_l a b a.fKids b.fKids [] 0 ih rfl rfl hl, hl]
    simp only [bne_self_eq_false, Bool.or_false]
    cases h1 : (a.fOp == b.fOp) <;> cases h2 : (a.fName.toList == b.fName.toList) <;> cases h3 : (a.fN == b.fN) <;> simp only [bne, h1, h2, h3, Bool.not_true, Bool.not_false, Bool.or_true, Bool.true_or, Bool.or_false, Bool.false_or, Bool.true_and, Bool.false_and, Bool.and_false, Bool.false_eq_true, if_true, if_false, obind] <;> first | rfl | (cases ((a.fSet.fAll == b.fSet.fAll) && excsB a.fSet.fList b.fSet.fList) <;> rfl)
  · rw [sameL_len _ _ hl, Bool.and_false]
    have hd : (((a.fKids.length : Nat) : Int) != ((b.fKids.length : Nat) : Int)) = true := by rw [bne_iff_ne]; omega
    rw [hd]
    simp only [Bool.or_true, if_true]
    cases h1 : (a.fOp == b.fOp) <;> cases h2 : (a.fName.toList == b.fName.toList) <;> cases h3 : (a.fN == b.fN) <;> simp only [bne, h1, h2, h3, Bool.not_true, Bool.not_false, Bool.or_true, Bool.true_or, Bool.or_false, Bool.false_or, Bool.true_and, Bool.false_and, Bool.and_false, Bool.false_eq_true, if_true, if_false, obind] <;> rfl
theorem sameB_refl : ∀ v : TValue, sameB v v = true := by
  refine TValue.ind fun v ih => ?_
  have key : ∀ l : List TValue, (∀ x ∈ l, sameB x x = true) → sameL l l = true := by
    intro l
    induction l with
    | nil => intro _; rw [sameL]
    | cons x l ih2 => intro h; rw [sameL, h x (by simp), ih2 fun y hy => h y (by simp [hy])]; rfl
  rw [sameB_eq, key _ ih, excsB_refl]
  simp
end Go.Proofs.YtafniolcakiljaaDoor

set_option linter.unusedVariables false
set_option linter.unusedSimpArgs false
set_option maxRecDepth 100000
set_option maxHeartbeats 8000000
namespace Go.Proofs.YtafniolcakiljaaDoor
open Go Go.Am
def exA : TValue := TValue.mk 2 (ByteArray.mk #[]) 97 [] (TExcSet.mk false [])
def exN : TValue := TValue.mk 3 (ByteArray.mk #[91, 93]) 0 [] (TExcSet.mk false [])
def exV : TValue := TValue.mk 3 (ByteArray.mk #[58]) 0 [exA, exN] (TExcSet.mk false [])
theorem ixI0 {α : Type} (x : α) (l : List α) : ixI (x :: l) 0 = some x := rfl
theorem ixI1 {α : Type} (x y : α) (l : List α) : ixI (x :: y :: l) 1 = some y := rfl
theorem exCopied : values_copied exA = some exA := by
  rw [values_copied, slices_Clone_Exc]
  rw [show exA.fSet.fList = [] from rfl, show exA.fKids = [] from rfl]
  rw [gtrue _ (by decide +kernel), obind, values_copied_l1]; rfl
theorem exList : values_List exV = some ([exA], true) := by
  rw [values_List, values_List_l1, if_pos (by decide +kernel), show exV.fKids = [exA, exN] from rfl, ixI0, obind, exCopied, obind, gtrue _ (by decide +kernel), ixI1, obind, values_List_l1, if_neg (by decide +kernel), if_neg (by decide +kernel)]; rfl
theorem exText : values_Text exV = some (ByteArray.mk #[97], true) := by
  rw [values_Text, exList, obind, if_neg (by decide +kernel), gtrue _ (by decide +kernel)]
  show values_Text_l1 [] _ 0 [exA] = _
  rw [values_Text_l1]
  show (if _ then _ else _) = _
  rw [if_neg (by decide +kernel), gtrue _ (by decide +kernel), values_Text_l1]
  rfl
theorem exDepthA : values_depth exA = some 1 := by rw [values_depth, show exA.fKids = [] from rfl, values_depth_l1]; rfl
theorem exDepthN : values_depth exN = some 1 := by rw [values_depth, show exN.fKids = [] from rfl, values_depth_l1]; rfl
theorem exDepth : values_depth exV = some 2 := by
  rw [values_depth, show exV.fKids = [exA, exN] from rfl, values_depth_l1]
  simp only [exDepthA, obind]
  rw [values_depth_l1]
  simp only [exDepthN, obind]
  rw [values_depth_l1]; rfl
theorem exSizeA : values_size exA = some 1 := by rw [values_size, show exA.fKids = [] from rfl, values_size_l1]
theorem exSizeN : values_size exN = some 1 := by rw [values_size, show exN.fKids = [] from rfl, values_size_l1]
theorem exSize : values_size exV = some 3 := by
  rw [values_size, show exV.fKids = [exA, exN] from rfl, values_size_l1]
  simp only [exSizeA, obind]
  rw [values_size_l1]
  simp only [exSizeN, obind]
  rw [values_size_l1]; rfl
theorem exNoSet : values_noSet (TExcSet.mk false []) = some true := by rw [values_noSet]; rfl
theorem con_ok (s : ByteArray) : True := trivial
theorem exConV : values_constructor (ByteArray.mk #[58]) = some true := by
  rw [values_constructor]
  rw [if_neg (by decide +kernel), values_constructor_l1, if_pos (by decide +kernel)]
  rw [show btI (ByteArray.mk #[58]) ((0 : Nat) : Int) = some 58 from by decide +kernel]
  simp only [obind]
  rw [if_neg (by decide +kernel)]
  simp only [obind]
  rw [if_neg (by decide +kernel), gtrue _ (by decide +kernel), values_constructor_l1, if_neg (by decide +kernel)]
  rw [show btI (ByteArray.mk #[58]) 0 = some 58 from by decide +kernel]
  decide +kernel
theorem exConN : values_constructor (ByteArray.mk #[91, 93]) = some true := by
  rw [values_constructor]
  rw [if_neg (by decide +kernel), values_constructor_l1, if_pos (by decide +kernel)]
  rw [show btI (ByteArray.mk #[91, 93]) ((0 : Nat) : Int) = some 91 from by decide +kernel]
  simp only [obind]
  rw [if_neg (by decide +kernel)]
  simp only [obind]
  rw [if_neg (by decide +kernel), gtrue _ (by decide +kernel), values_constructor_l1, if_pos (by decide +kernel)]
  rw [show btI (ByteArray.mk #[91, 93]) ((0 + 1 : Nat) : Int) = some 93 from by decide +kernel]
  simp only [obind]
  rw [if_neg (by decide +kernel)]
  simp only [obind]
  rw [if_neg (by decide +kernel), gtrue _ (by decide +kernel), values_constructor_l1, if_neg (by decide +kernel)]
  rw [show btI (ByteArray.mk #[91, 93]) 0 = some 91 from by decide +kernel]
  decide +kernel
theorem exFormedA : values_formed exA = some true := by
  rw [values_formed, show exA.fSet = TExcSet.mk false [] from rfl, exNoSet, if_neg (by decide +kernel), if_pos (by decide +kernel)]
  simp only [obind]
  rw [if_neg (by decide +kernel), if_neg (by decide +kernel), if_neg (by decide +kernel), values_formed_k1, if_neg (by decide +kernel), if_pos (by decide +kernel)]
  decide +kernel
theorem exFormedN : values_formed exN = some true := by
  rw [values_formed, show exN.fSet = TExcSet.mk false [] from rfl, exNoSet, if_neg (by decide +kernel), if_pos (by decide +kernel)]
  simp only [obind]
  rw [if_neg (by decide +kernel), if_neg (by decide +kernel), if_neg (by decide +kernel), values_formed_k1, if_neg (by decide +kernel), if_neg (by decide +kernel), if_neg (by decide +kernel), if_pos (by decide +kernel)]
  rw [show exN.fKids = [] from rfl, values_formed_l2, show exN.fName = ByteArray.mk #[91, 93] from rfl, exConN]; rfl
theorem exFormed : values_formed exV = some true := by
  rw [values_formed, show exV.fSet = TExcSet.mk false [] from rfl, exNoSet, if_neg (by decide +kernel), if_pos (by decide +kernel)]
  simp only [obind]
  rw [if_neg (by decide +kernel), if_neg (by decide +kernel), if_neg (by decide +kernel), values_formed_k1, if_neg (by decide +kernel), if_neg (by decide +kernel), if_neg (by decide +kernel), if_pos (by decide +kernel)]
  rw [show exV.fKids = [exA, exN] from rfl, values_formed_l2]
  simp only [exFormedA, obind]
  rw [if_neg (by decide +kernel), values_formed_l2]
  simp only [exFormedN, obind]
  rw [if_neg (by decide +kernel), values_formed_l2, show exV.fName = ByteArray.mk #[58] from rfl, exConV]; rfl
theorem exCheck : values_Check exV = some 0 := by
  rw [values_Check, exDepth, obind, if_neg (by decide +kernel), exSize, obind, if_neg (by decide +kernel), exFormed, obind, if_neg (by decide +kernel)]
theorem exWords : values_words [] exV = some [ByteArray.mk #[40], ByteArray.mk #[58], ByteArray.mk #[35, 57, 55], ByteArray.mk #[91, 93], ByteArray.mk #[41]] := by
  rw [values_words, if_neg (by decide +kernel), if_neg (by decide +kernel), if_neg (by decide +kernel), if_neg (by decide +kernel), if_neg (by decide +kernel), if_neg (by decide +kernel), gtrue _ (by decide +kernel)]
  rw [show exV.fKids = [exA, exN] from rfl, values_words_l2]
  rw [values_words, if_neg (by decide +kernel), if_pos (by decide +kernel), show strconv_Itoa exA.fN = some (ByteArray.mk #[57, 55]) from by decide +kernel, obind, gtrue _ (by decide +kernel), gtrue _ (by decide +kernel), obind, values_words_l2]
  rw [values_words, if_neg (by decide +kernel), if_neg (by decide +kernel), if_neg (by decide +kernel), if_neg (by decide +kernel), if_neg (by decide +kernel), if_pos (by decide +kernel), gtrue _ (by decide +kernel), obind, values_words_l2, gtrue _ (by decide +kernel)]
  rfl
theorem exPrint : values_Print exV = some (ByteArray.mk #[40, 32, 58, 32, 35, 57, 55, 32, 91, 93, 32, 41]) := by
  rw [values_Print, exCheck, obind, if_neg (by decide +kernel), exWords, obind, strings_Join, if_pos (by decide +kernel)]
  decide +kernel
theorem example_true : lazyclaw25_example = some true := by
  rw [lazyclaw25_example]
  show (values_Text exV >>= fun r1 => values_Print exV >>= fun r2 => _) = _
  rw [exText, obind, exPrint, obind, if_pos (by decide +kernel)]
  simp only [refines_eq, obind]
  decide +kernel
end Go.Proofs.YtafniolcakiljaaDoor

set_option linter.unusedVariables false
set_option linter.unusedSimpArgs false
set_option maxRecDepth 100000
set_option maxHeartbeats 4000000
namespace Go.Proofs.YtafniolcakiljaaDoor
open Go Go.Am
/-! ### how much there is in a value -/
mutual
def TValue.cnt : TValue → Nat
  | .mk _ name _ kids set => 1 + name.size + set.fList.length + TValue.cntL kids
def TValue.cntL : List TValue → Nat
  | [] => 0
  | x :: xs => x.cnt + TValue.cntL xs
end
theorem cnt_eq (v : TValue) : v.cnt = 1 + v.fName.size + v.fSet.fList.length + TValue.cntL v.fKids := by cases v; rw [TValue.cnt]; rfl
theorem cntL_mem : ∀ {l : List TValue} {x : TValue}, x ∈ l → x.cnt ≤ TValue.cntL l
  | y :: l, x, h => by
    rw [TValue.cntL]
    rcases List.mem_cons.1 h with rfl | h
    · omega
    · have := cntL_mem h; omega
theorem cntL_len : ∀ l : List TValue, l.length ≤ TValue.cntL l
  | [] => by simp [TValue.cntL]
  | x :: l => by rw [TValue.cntL, cnt_eq, List.length_cons]; have := cntL_len l; omega
theorem bulkRs_len : ∀ l : List (List E), (∀ r ∈ l, r ≠ []) → l.length ≤ bulkRs l
  | [], _ => by simp [bulkRs]
  | r :: l, h => by
    rw [bulkRs, List.length_cons]
    have h1 := bulkRs_len l fun r hr => h r (by simp [hr])
    have : 1 ≤ bulkEs r := by
      cases r with
      | nil => exact absurd rfl (h [] (by simp))
      | cons e es =>
        rw [bulkEs]
        have : 1 ≤ bulkE e := by cases e with | v x => cases x <;> simp [bulkE] | _ => simp [bulkE]
        omega
    omega
theorem cnt_bulk : ∀ v : TValue, v.cnt ≤ bulkEs v.cells := by
  refine TValue.ind fun v ih => ?_
  have key : ∀ l : List TValue, (∀ x ∈ l, x.cnt ≤ bulkEs x.cells) → TValue.cntL l ≤ bulkRs (l.map TValue.cells) := by
    intro l
    induction l with
    | nil => intro _; simp [TValue.cntL]
    | cons x l ih2 =>
      intro h
      rw [TValue.cntL, List.map_cons, bulkRs]
      have := h x (by simp)
      have := ih2 fun y hy => h y (by simp [hy])
      omega
  have h1 := key _ ih
  have h2 := bulkRs_len (v.fSet.fList.map TExc.cells) (fun r hr => by obtain ⟨x, _, rfl⟩ := List.mem_map.1 hr; simp [TExc.cells])
  rw [List.length_map] at h2
  rw [cnt_eq, TValue.cells_eq]
  simp only [bulkEs, bulkE]
  omega
/-! ### copies -/
theorem copied_eq : ∀ v : TValue, v.cnt ≤ 1048576 → values_copied v = some v := by
  refine TValue.ind fun v ih hv => ?_
  rw [cnt_eq] at hv
  have key : ∀ (post pre : List TValue) (k : Nat), v.fKids = pre ++ post → (∀ x ∈ post, x ∈ v.fKids) → values_copied_l1 v k pre v.fSet.fList post = some v := by
    intro post
    induction post with
    | nil =>
      intro pre k h _
      rw [values_copied_l1]
      rw [List.append_nil] at h
      cases v; subst h; rfl
    | cons x post ih2 =>
      intro pre k h hm
      have hx := hm x (by simp)
      have h1 := cntL_mem hx
      have h2 := cntL_len v.fKids
      rw [values_copied_l1, ih x hx (by omega)]
      simp only [obind]
      have h3 := congrArg List.length h
      rw [List.length_append, List.length_cons] at h3
      rw [gtrue _ (by simp only [List.length_cons, List.length_nil]; omega)]
      exact ih2 (pre ++ [x]) (k + 1) (by rw [h]; simp) fun y hy => hm y (by simp [hy])
  rw [values_copied, slices_Clone_Exc]
  rw [gtrue _ (by omega)]
  simp only [obind]
  exact key v.fKids [] 0 rfl fun x hx => hx
/-! ### lists -/
theorem list_l : ∀ (n : Nat) (v : TValue) (l : List TValue), v.cnt ≤ n → l.length + v.cnt ≤ 1048576 →
    ∃ r, values_List_l1 l v = some r ∧ lazycref25_List_l1 l v = some r ∧ r.1.length ≤ 1048576 ∧ (r.2 = false → r.1 = []) := by
  intro n
  induction n with
  | zero => intro v l h _; rw [cnt_eq] at h; omega
  | succ n ih =>
    intro v l hn hl
    rw [values_List_l1, lazycref25_List_l1]
    by_cases hc : (((v.fOp == 3) && (v.fName.toList == (ByteArray.mk #[58]).toList)) && (((v.fKids.length : Nat) : Int) == 2)) = true
    · rw [if_pos hc, if_pos hc]
      simp only [Bool.and_eq_true, beq_iff_eq] at hc
      obtain ⟨a, b, hab⟩ := get2 (l := v.fKids) (by omega)
      have hcv := cnt_eq v
      rw [hab] at hcv
      simp only [TValue.cntL] at hcv
      have ha := cnt_eq a
      have h0 : ixI v.fKids 0 = some a := by rw [hab]; rfl
      have h1 : ixI v.fKids 1 = some b := by rw [hab]; rfl
      rw [h0, h1]
      simp only [obind, copied_eq a (by omega)]
      have hg : (l.length + [a].length) * 88 ≤ 140737488355328 := by simp only [List.length_cons, List.length_nil]; omega
      rw [gtrue _ hg, gtrue _ hg]
      exact ih b (l ++ [a]) (by omega) (by rw [List.length_append]; simp only [List.length_cons, List.length_nil]; omega)
    · rw [if_neg hc, if_neg hc]
      by_cases hd : (((v.fOp != 3) || (!(v.fName.toList == (ByteArray.mk #[91, 93]).toList))) || (((v.fKids.length : Nat) : Int) != 0)) = true
      · rw [if_pos hd]; exact ⟨_, rfl, rfl, by simp, fun _ => rfl⟩
      · rw [if_neg hd]; exact ⟨_, rfl, rfl, by show l.length ≤ _; omega, fun h => by cases h⟩
theorem text_l (r : List TValue × Bool) (hr : r.2 = true) : ∀ (post : List TValue) (b : List Int) (k : Nat), b.length + post.length ≤ 1048576 → ∃ t, values_Text_l1 b r k post = some t ∧ lazycref25_Text_l1 r b k post = some t
  | [], b, k, _ => by rw [values_Text_l1, lazycref25_Text_l1, hr]; exact ⟨_, rfl, rfl⟩
  | x :: post, b, k, h => by
    rw [values_Text_l1, lazycref25_Text_l1]
    by_cases hc : (((x.fOp != 2) || (decide (x.fN < 0))) || (decide (x.fN > 255))) = true
    · rw [if_pos hc, if_pos hc]; exact ⟨_, rfl, rfl⟩
    · rw [if_neg hc, if_neg hc]
      rw [List.length_cons] at h
      have hg : (b.length + [(IntKind.u8.wrap x.fN)].length) * 1 ≤ 140737488355328 := by simp only [List.length_cons, List.length_nil]; omega
      rw [gtrue _ hg, gtrue _ hg]
      exact text_l r hr post _ (k + 1) (by rw [List.length_append]; simp only [List.length_cons, List.length_nil]; omega)
theorem text_eq (v : TValue) (hv : v.cnt ≤ 1048576) : ∃ t, values_Text v = some t ∧ lazycref25_Text v = some t := by
  obtain ⟨r, h1, h2, h3, h4⟩ := list_l _ v [] (Nat.le_refl _) (by simpa using hv)
  rw [values_Text, lazycref25_Text, values_List, lazycref25_List, h1, h2]
  simp only [obind]
  cases hr : r.2 with
  | false => rw [h4 hr, lazycref25_Text_l1, hr]; exact ⟨_, rfl, rfl⟩
  | true =>
    simp only [Bool.not_true, Bool.false_eq_true, if_false]
    rw [gtrue _ ⟨Int.natCast_nonneg _, by unfold maxLen; omega, by omega⟩]
    exact text_l r hr r.1 [] 0 (by simpa using h3)
theorem lists_law (v : TValue) (hv : v.cnt ≤ 1048576) : lazyclaw25_ValuesLists v = some true := by
  obtain ⟨x, hx⟩ := small_some v
  obtain ⟨r, h1, h2, h3, h4⟩ := list_l _ v [] (Nat.le_refl _) (by simpa using hv)
  obtain ⟨t, t1, t2⟩ := text_eq v hv
  rw [lazyclaw25_ValuesLists, hx, example_true, values_List, lazycref25_List, h1, h2]
  simp only [obind]
  cases x with
  | false => rfl
  | true =>
    simp only [Bool.not_true, Bool.false_eq_true, if_false, beq_self_eq_true, bne_self_eq_false, Bool.or_false]
    have key : ∀ (post pre : List TValue) (k : Nat), r.1 = pre ++ post → k = pre.length → lazyclaw25_ValuesLists_l1 r r k v post = some true := by
      intro post
      induction post with
      | nil =>
        intro pre k _ _
        rw [lazyclaw25_ValuesLists_l1, t1, t2, example_true]
        simp only [obind, beq_self_eq_true, Bool.and_true, if_true]
      | cons y post ih =>
        intro pre k h hk
        rw [lazyclaw25_ValuesLists_l1, get_mid h hk]
        simp only [obind, samer_eq, sameB_refl, Bool.not_true, Bool.false_eq_true, if_false]
        exact ih (pre ++ [y]) (k + 1) (by rw [h]; simp) (by rw [hk]; simp)
    exact key r.1 [] 0 rfl rfl
theorem valuesLists_true {a : List E} (ha : Sh tab 28 a) (hb : bulkEs a ≤ 1048576) : CallsA Tryd.prog 5 [.agg a] (fun r => r = .c none (.v (.bool true))) := by
  obtain ⟨a, rfl, hv⟩ := val_ok ha
  have h := lazyclaw25_ValuesLists_ok a true (lists_law a (Nat.le_trans (cnt_bulk a) hb))
  unfold lazyclaw25_ValuesLists.M at h
  rw [TValue.cells_eq]
  exact CallsX.mono h fun d b h => h.1
end Go.Proofs.YtafniolcakiljaaDoor

