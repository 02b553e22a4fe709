/- Part 5 of the proof: the lifted functions and their walks. It holds for every input, without conditions. -/
import Derived.Test.YtafniolcakiljaaDoorVcA
import Derived.Test.YtafniolcakiljaaDoorVcB
import Derived.Test.YtafniolcakiljaaDoorVcC
import Derived.Test.YtafniolcakiljaaDoorVcD
set_option linter.unusedVariables false
set_option linter.unusedSimpArgs false
set_option maxRecDepth 100000
set_option maxHeartbeats 4000000
namespace Go.Proofs.YtafniolcakiljaaDoor
open Go Go.Am
mutual
def values_formed (toArray : TValue) : Option (Bool) :=
  (if (((!(toArray.fOp == 3)) && ((!(toArray.fName.toList == (ByteArray.mk #[]).toList)) || (decide (((toArray.fKids.length : Nat) : Int) > 0)))) || ((!((toArray.fOp == 1) || (toArray.fOp == 2))) && (toArray.fN != 0))) = true then some true else (if (toArray.fOp != 5) = true then values_noSet toArray.fSet >>= fun r8 =>
  some (!r8) else some false) >>= fun c9 =>
  some c9) >>= fun c10 =>
  if c10 = true then
  some false
  else
  if (toArray.fOp == 1) = true then
  values_formed_k1 toArray (toArray.fOp == 1)
  else
  if (toArray.fOp == 4) = true then
  values_formed_k1 toArray (toArray.fOp == 4)
  else
  values_formed_k1 toArray (toArray.fOp == 6)
  partial_fixpoint
def values_formed_k1 (toArray : TValue) (x_53 : Bool) : Option (Bool) :=
  if x_53 = true then
  some true
  else
  if (toArray.fOp == 2) = true then
  some ((decide (toArray.fN ≥ 0)) && (decide (toArray.fN ≤ 255)))
  else
  if (toArray.fOp == 5) = true then
  values_validSet toArray.fSet >>= fun r29 =>
  some r29
  else
  if (toArray.fOp == 3) = true then
  values_formed_l2 toArray 0 toArray.fKids
  else
  some false
  partial_fixpoint
def values_formed_l2 (toArray : TValue) (x_77 : Nat) (x_77_s_ : (List TValue)) : Option (Bool) :=
  (match x_77_s_ with
  | x59 :: xs60 =>
  values_formed x59 >>= fun r62 =>
  if (!r62) = true then
  some false
  else
  values_formed_l2 toArray (x_77 + 1) xs60
  | [] =>
  values_constructor toArray.fName >>= fun r64 =>
  some r64)
  partial_fixpoint
end
def values_formed.M (toArray : TValue) (r : Bool) : Prop :=
  CallsX Tryd.prog 43 [.agg [.v (.int .i64 toArray.fOp), .v (.string toArray.fName), .v (.int .i64 toArray.fN), .sl (toArray.fKids.map TValue.cells), .v (.bool toArray.fSet.fAll), .sl (toArray.fSet.fList.map TExc.cells)]] [] (fun d b => d = .c none (.v (.bool r)) ∧ b = [])
def values_formed_k1.M (toArray : TValue) (x_53 : Bool) (r : Bool) : Prop :=
  AWP Tryd.prog 88 (Code.sub (bodyOf Tryd.f43) [1, 1, 1, 0, 1, 0, 1]) (Code.cont Tryd.prog 88 (bodyOf Tryd.f43) [1, 1, 1, 0, 1, 0, 1] (endK tab Tryd.f43.results [] (WRes (.c none (.v (.bool r))) []))) ⟨[(1, .ptr 1 0), (52, .c none (.v (.int .i64 toArray.fOp))), (53, .c none (.v (.bool x_53)))], [(1, [(none, .v (.int .i64 toArray.fOp)), (none, .v (.string toArray.fName)), (none, .v (.int .i64 toArray.fN)), (none, .sl (toArray.fKids.map TValue.cells)), (none, .v (.bool toArray.fSet.fAll)), (none, .sl (toArray.fSet.fList.map TExc.cells))])]⟩
def values_formed_l2.M (toArray : TValue) (x_77 : Nat) (x_77_s_ : (List TValue)) (r : Bool) : Prop :=
  ∀ pre_x_77 : List TValue, toArray.fKids = pre_x_77 ++ x_77_s_ → x_77 = pre_x_77.length → toArray.fKids.length ≤ maxLen → AWL Tryd.prog 88 (Code.sub (bodyOf Tryd.f43) [1, 1, 1, 0, 1, 0, 1, 1, 1, 1, 1, 1, 1, 0, 0, 1, 0, 0]) (Code.cont Tryd.prog 88 (bodyOf Tryd.f43) [1, 1, 1, 0, 1, 0, 1, 1, 1, 1, 1, 1, 1, 0, 0, 1, 0] (endK tab Tryd.f43.results [] (WRes (.c none (.v (.bool r))) []))) ⟨[(1, .ptr 1 0), (75, .c none (.sl (toArray.fKids.map TValue.cells))), (76, .c none (.v (.int .i64 ((toArray.fKids.length : Nat) : Int)))), (77, .c none (.v (.int .i64 ((x_77 : Nat) : Int))))], [(1, [(none, .v (.int .i64 toArray.fOp)), (none, .v (.string toArray.fName)), (none, .v (.int .i64 toArray.fN)), (none, .sl (toArray.fKids.map TValue.cells)), (none, .v (.bool toArray.fSet.fAll)), (none, .sl (toArray.fSet.fList.map TExc.cells))])]⟩
theorem values_formed_all : (∀ (toArray : TValue), ∀ r, values_formed toArray = some r → values_formed.M toArray r) ∧ (∀ (toArray : TValue) (x_53 : Bool), ∀ r, values_formed_k1 toArray x_53 = some r → values_formed_k1.M toArray x_53 r) ∧ (∀ (toArray : TValue) (x_77 : Nat) (x_77_s_ : (List TValue)), ∀ r, values_formed_l2 toArray x_77 x_77_s_ = some r → values_formed_l2.M toArray x_77 x_77_s_ r) := by
  refine values_formed.mutual_partial_correctness values_formed.M values_formed_k1.M values_formed_l2.M ?_ ?_ ?_
  · intro values_formed_k1' ih_values_formed_k1 toArray r hF
    unfold values_formed.M
    refine enter tabOk Tryd.func43 rfl (by decide) (Nat.le_of_ble_eq_true rfl) rfl rfl rfl ?_
    refine AWP.seq ?_
    refine nd (by decide) _ _ _ ?_
    (repeat (first | ((conv => whnf); (with_reducible refine And.intro ?_ ?_); (focus (first | exact Eq.refl _ | exact trivial | exact Int.natCast_nonneg _ | assumption | exact Nat.le_of_ble_eq_true (Eq.refl true) | decide))))); (conv => whnf)
    refine AWP.seq ?_
    refine AWP.cutN (fun T => ∃ r, WS r T ⟨[(1, .ptr 1 0), (3, .c none (.v (.bool (toArray.fOp == 3)))), (4, .c none (.v (.bool ((toArray.fOp == 1) || (toArray.fOp == 2)))))], [(1, [(none, .v (.int .i64 toArray.fOp)), (none, .v (.string toArray.fName)), (none, .v (.int .i64 toArray.fN)), (none, .sl (toArray.fKids.map TValue.cells)), (none, .v (.bool toArray.fSet.fAll)), (none, .sl (toArray.fSet.fList.map TExc.cells))])]⟩) ?_ (fun T hw => ?_)
    · refine nd (by decide) _ _ _ ?_
      refine Exists.intro 12 (Exists.intro [[7, 8, 9, 10, 11, 12, 13, 14, 15, 16, 17, 3], [8, 9, 10, 11, 12, 13, 14, 15, 16, 17, 3], [9, 10, 11, 12, 13, 14, 15, 16, 17, 3], [7, 8, 9, 10, 11, 12, 13, 14, 15, 16, 17, 3], [7, 8, 9, 11, 12, 13, 14, 15, 16, 17, 3], [7, 8, 9, 12, 13, 14, 15, 16, 17, 3], [7, 8, 9, 13, 14, 15, 16, 17, 3], [7, 8, 9, 14, 15, 16, 17, 3], [7, 8, 9, 15, 16, 17, 3], [7, 8, 9, 16, 17, 3], [7, 8, 9, 17, 3], [14, 15, 16, 17, 3]] (Exists.intro [7, 8, 9, 10, 11, 12, 13, 14, 15, 16, 17, 3] (And.intro (by decide +kernel) ?_)))
      ((repeat (first | ((conv => whnf); (with_reducible refine And.intro ?_ ?_); (focus (first | exact Eq.refl _ | exact trivial | exact Int.natCast_nonneg _ | assumption | exact Nat.le_of_ble_eq_true (Eq.refl true) | decide))))); (conv => whnf); apply Exists.intro; apply Exists.intro; apply And.intro; (focus (((repeat (first | ((conv => whnf); (with_reducible refine And.intro ?_ ?_); (focus (first | exact Eq.refl _ | exact trivial | exact Int.natCast_nonneg _ | assumption | exact Nat.le_of_ble_eq_true (Eq.refl true) | decide))))); (conv => whnf)) <;> (exact rfl))); apply And.intro; (focus exact rfl); (conv => whnf))
      ((repeat (first | ((conv => whnf); (with_reducible refine And.intro ?_ ?_); (focus (first | exact Eq.refl _ | exact trivial | exact Int.natCast_nonneg _ | assumption | exact Nat.le_of_ble_eq_true (Eq.refl true) | decide))))); (conv => whnf); apply Exists.intro; apply Exists.intro; apply And.intro; (focus (((repeat (first | ((conv => whnf); (with_reducible refine And.intro ?_ ?_); (focus (first | exact Eq.refl _ | exact trivial | exact Int.natCast_nonneg _ | assumption | exact Nat.le_of_ble_eq_true (Eq.refl true) | decide))))); (conv => whnf)) <;> (exact rfl))); apply And.intro; (focus exact rfl); (conv => whnf))
      ((repeat (first | ((conv => whnf); (with_reducible refine And.intro ?_ ?_); (focus (first | exact Eq.refl _ | exact trivial | exact Int.natCast_nonneg _ | assumption | exact Nat.le_of_ble_eq_true (Eq.refl true) | decide))))); (conv => whnf); apply Exists.intro; apply Exists.intro; apply And.intro; (focus (((repeat (first | ((conv => whnf); (with_reducible refine And.intro ?_ ?_); (focus (first | exact Eq.refl _ | exact trivial | exact Int.natCast_nonneg _ | assumption | exact Nat.le_of_ble_eq_true (Eq.refl true) | decide))))); (conv => whnf)) <;> (exact rfl))); apply And.intro; (focus exact rfl); (conv => whnf))
      ((repeat (first | ((conv => whnf); (with_reducible refine And.intro ?_ ?_); (focus (first | exact Eq.refl _ | exact trivial | exact Int.natCast_nonneg _ | assumption | exact Nat.le_of_ble_eq_true (Eq.refl true) | decide))))); (conv => whnf); apply Exists.intro; apply Exists.intro; apply And.intro; (focus (((repeat (first | ((conv => whnf); (with_reducible refine And.intro ?_ ?_); (focus (first | exact Eq.refl _ | exact trivial | exact Int.natCast_nonneg _ | assumption | exact Nat.le_of_ble_eq_true (Eq.refl true) | decide))))); (conv => whnf)) <;> (exact rfl))); apply And.intro; (focus exact rfl); (conv => whnf))
      ((repeat (first | ((conv => whnf); (with_reducible refine And.intro ?_ ?_); (focus (first | exact Eq.refl _ | exact trivial | exact Int.natCast_nonneg _ | assumption | exact Nat.le_of_ble_eq_true (Eq.refl true) | decide))))); (conv => whnf); apply Exists.intro; apply Exists.intro; apply And.intro; (focus (((repeat (first | ((conv => whnf); (with_reducible refine And.intro ?_ ?_); (focus (first | exact Eq.refl _ | exact trivial | exact Int.natCast_nonneg _ | assumption | exact Nat.le_of_ble_eq_true (Eq.refl true) | decide))))); (conv => whnf)) <;> (exact rfl))); apply And.intro; (focus exact rfl); (conv => whnf))
      ((repeat (first | ((conv => whnf); (with_reducible refine And.intro ?_ ?_); (focus (first | exact Eq.refl _ | exact trivial | exact Int.natCast_nonneg _ | assumption | exact Nat.le_of_ble_eq_true (Eq.refl true) | decide))))); (conv => whnf); apply Exists.intro; apply Exists.intro; apply And.intro; (focus (((repeat (first | ((conv => whnf); (with_reducible refine And.intro ?_ ?_); (focus (first | exact Eq.refl _ | exact trivial | exact Int.natCast_nonneg _ | assumption | exact Nat.le_of_ble_eq_true (Eq.refl true) | decide))))); (conv => whnf)) <;> (exact rfl))); apply And.intro; (focus exact rfl); (conv => whnf))
      ((repeat (first | ((conv => whnf); (with_reducible refine And.intro ?_ ?_); (focus (first | exact Eq.refl _ | exact trivial | exact Int.natCast_nonneg _ | assumption | exact Nat.le_of_ble_eq_true (Eq.refl true) | decide))))); (conv => whnf); apply Exists.intro; apply Exists.intro; apply And.intro; (focus (((repeat (first | ((conv => whnf); (with_reducible refine And.intro ?_ ?_); (focus (first | exact Eq.refl _ | exact trivial | exact Int.natCast_nonneg _ | assumption | exact Nat.le_of_ble_eq_true (Eq.refl true) | decide))))); (conv => whnf)) <;> (exact rfl))); apply And.intro; (focus exact rfl); (conv => whnf))
      (repeat (first | ((conv => whnf); (with_reducible refine And.intro ?_ ?_); (focus (first | exact Eq.refl _ | exact trivial | exact Int.natCast_nonneg _ | assumption | exact Nat.le_of_ble_eq_true (Eq.refl true) | decide))))); (conv => whnf)
      refine branchG_intro false (fun hc1 => ?_) (fun hc1 => ?_)
      · (conv => whnf)
        ((repeat (first | ((conv => whnf); (with_reducible refine And.intro ?_ ?_); (focus (first | exact Eq.refl _ | exact trivial | exact Int.natCast_nonneg _ | assumption | exact Nat.le_of_ble_eq_true (Eq.refl true) | decide))))); (conv => whnf); apply Exists.intro; apply Exists.intro; apply And.intro; (focus (((repeat (first | ((conv => whnf); (with_reducible refine And.intro ?_ ?_); (focus (first | exact Eq.refl _ | exact trivial | exact Int.natCast_nonneg _ | assumption | exact Nat.le_of_ble_eq_true (Eq.refl true) | decide))))); (conv => whnf)) <;> (exact rfl))); apply And.intro; (focus exact rfl); (conv => whnf))
        ((repeat (first | ((conv => whnf); (with_reducible refine And.intro ?_ ?_); (focus (first | exact Eq.refl _ | exact trivial | exact Int.natCast_nonneg _ | assumption | exact Nat.le_of_ble_eq_true (Eq.refl true) | decide))))); (conv => whnf); apply Exists.intro; apply Exists.intro; apply And.intro; (focus (((repeat (first | ((conv => whnf); (with_reducible refine And.intro ?_ ?_); (focus (first | exact Eq.refl _ | exact trivial | exact Int.natCast_nonneg _ | assumption | exact Nat.le_of_ble_eq_true (Eq.refl true) | decide))))); (conv => whnf)) <;> (exact rfl))); apply And.intro; (focus exact rfl); (conv => whnf))
        (repeat (first | ((conv => whnf); (with_reducible refine And.intro ?_ ?_); (focus (first | exact Eq.refl _ | exact trivial | exact Int.natCast_nonneg _ | assumption | exact Nat.le_of_ble_eq_true (Eq.refl true) | decide))))); (conv => whnf)
        exact Exists.intro (rn []) (WS.mk (wt_cons wd_ptr (wt_cons (wd_c (WE.refl _)) (wt_cons (wd_c (we_b (by first | exact Eq.refl _ | simp only [hc1, Bool.and_true, Bool.true_and, Bool.and_false, Bool.false_and, Bool.or_true, Bool.true_or, Bool.or_false, Bool.false_or, Bool.not_true, Bool.not_false, cond_true, cond_false, List.length_map]))) wt_nil))) (wb_cons rfl (wc_c (WE.refl _) (wc_c (WE.refl _) (wc_c (WE.refl _) (wc_c (WE.refl _) (wc_c (WE.refl _) (wc_c (WE.refl _) wc_nil)))))) wb_nil))
      · (conv => whnf)
        ((repeat (first | ((conv => whnf); (with_reducible refine And.intro ?_ ?_); (focus (first | exact Eq.refl _ | exact trivial | exact Int.natCast_nonneg _ | assumption | exact Nat.le_of_ble_eq_true (Eq.refl true) | decide))))); (conv => whnf); apply Exists.intro; apply Exists.intro; apply And.intro; (focus (((repeat (first | ((conv => whnf); (with_reducible refine And.intro ?_ ?_); (focus (first | exact Eq.refl _ | exact trivial | exact Int.natCast_nonneg _ | assumption | exact Nat.le_of_ble_eq_true (Eq.refl true) | decide))))); (conv => whnf)) <;> (exact rfl))); apply And.intro; (focus exact rfl); (conv => whnf))
        ((repeat (first | ((conv => whnf); (with_reducible refine And.intro ?_ ?_); (focus (first | exact Eq.refl _ | exact trivial | exact Int.natCast_nonneg _ | assumption | exact Nat.le_of_ble_eq_true (Eq.refl true) | decide))))); (conv => whnf); apply Exists.intro; apply Exists.intro; apply And.intro; (focus (((repeat (first | ((conv => whnf); (with_reducible refine And.intro ?_ ?_); (focus (first | exact Eq.refl _ | exact trivial | exact Int.natCast_nonneg _ | assumption | exact Nat.le_of_ble_eq_true (Eq.refl true) | decide))))); (conv => whnf)) <;> (exact rfl))); apply And.intro; (focus exact rfl); (conv => whnf))
        ((repeat (first | ((conv => whnf); (with_reducible refine And.intro ?_ ?_); (focus (first | exact Eq.refl _ | exact trivial | exact Int.natCast_nonneg _ | assumption | exact Nat.le_of_ble_eq_true (Eq.refl true) | decide))))); (conv => whnf); apply Exists.intro; apply Exists.intro; apply And.intro; (focus (((repeat (first | ((conv => whnf); (with_reducible refine And.intro ?_ ?_); (focus (first | exact Eq.refl _ | exact trivial | exact Int.natCast_nonneg _ | assumption | exact Nat.le_of_ble_eq_true (Eq.refl true) | decide))))); (conv => whnf)) <;> (exact rfl))); apply And.intro; (focus exact rfl); (conv => whnf))
        ((repeat (first | ((conv => whnf); (with_reducible refine And.intro ?_ ?_); (focus (first | exact Eq.refl _ | exact trivial | exact Int.natCast_nonneg _ | assumption | exact Nat.le_of_ble_eq_true (Eq.refl true) | decide))))); (conv => whnf); apply Exists.intro; apply Exists.intro; apply And.intro; (focus (((repeat (first | ((conv => whnf); (with_reducible refine And.intro ?_ ?_); (focus (first | exact Eq.refl _ | exact trivial | exact Int.natCast_nonneg _ | assumption | exact Nat.le_of_ble_eq_true (Eq.refl true) | decide))))); (conv => whnf)) <;> (exact rfl))); apply And.intro; (focus exact rfl); (conv => whnf))
        ((repeat (first | ((conv => whnf); (with_reducible refine And.intro ?_ ?_); (focus (first | exact Eq.refl _ | exact trivial | exact Int.natCast_nonneg _ | assumption | exact Nat.le_of_ble_eq_true (Eq.refl true) | decide))))); (conv => whnf); apply Exists.intro; apply Exists.intro; apply And.intro; (focus (((repeat (first | ((conv => whnf); (with_reducible refine And.intro ?_ ?_); (focus (first | exact Eq.refl _ | exact trivial | exact Int.natCast_nonneg _ | assumption | exact Nat.le_of_ble_eq_true (Eq.refl true) | decide))))); (conv => whnf)) <;> (exact rfl))); apply And.intro; (focus exact rfl); (conv => whnf))
        (repeat (first | ((conv => whnf); (with_reducible refine And.intro ?_ ?_); (focus (first | exact Eq.refl _ | exact trivial | exact Int.natCast_nonneg _ | assumption | exact Nat.le_of_ble_eq_true (Eq.refl true) | decide))))); (conv => whnf)
        exact Exists.intro (rn []) (WS.mk (wt_cons wd_ptr (wt_cons (wd_c (WE.refl _)) (wt_cons (wd_c (we_b (by first | exact Eq.refl _ | simp only [hc1, Bool.and_true, Bool.true_and, Bool.and_false, Bool.false_and, Bool.or_true, Bool.true_or, Bool.or_false, Bool.false_or, Bool.not_true, Bool.not_false, cond_true, cond_false, List.length_map]))) wt_nil))) (wb_cons rfl (wc_c (WE.refl _) (wc_c (WE.refl _) (wc_c (WE.refl _) (wc_c (WE.refl _) (wc_c (WE.refl _) (wc_c (WE.refl _) wc_nil)))))) wb_nil))
    obtain ⟨r0, hw⟩ := hw
    (conv => whnf)
    refine AWP.weak r0 hw ?_
    refine AWP.seq ?_
    refine AWP.seq ?_
    obtain ⟨c10, hc10, hF⟩ := bind_some hF
    refine AWP.cutN (fun T => ∃ r, WS r T ⟨[(1, .ptr 1 0), (50, .c none (.v (.bool c10)))], [(1, [(none, .v (.int .i64 toArray.fOp)), (none, .v (.string toArray.fName)), (none, .v (.int .i64 toArray.fN)), (none, .sl (toArray.fKids.map TValue.cells)), (none, .v (.bool toArray.fSet.fAll)), (none, .sl (toArray.fSet.fList.map TExc.cells))])]⟩) ?_ (fun T hw => ?_)
    · refine nd (by decide) _ _ _ ?_
      (repeat (first | ((conv => whnf); (with_reducible refine And.intro ?_ ?_); (focus (first | exact Eq.refl _ | exact trivial | exact Int.natCast_nonneg _ | assumption | exact Nat.le_of_ble_eq_true (Eq.refl true) | decide))))); (conv => whnf)
      refine branchG_intro true (fun hc11 => ?_) (fun hc11 => ?_)
      · (conv => whnf)
        (repeat (first | ((conv => whnf); (with_reducible refine And.intro ?_ ?_); (focus (first | exact Eq.refl _ | exact trivial | exact Int.natCast_nonneg _ | assumption | exact Nat.le_of_ble_eq_true (Eq.refl true) | decide))))); (conv => whnf)
        refine branchG_intro false (fun hc12 => ?_) (fun hc12 => ?_)
        · (conv => whnf)
          have hc10 := if_then (by first | assumption | exact Eq.refl _ | simp only [hc11, hc12, Bool.and_true, Bool.true_and, Bool.and_false, Bool.false_and, Bool.or_true, Bool.true_or, Bool.or_false, Bool.false_or, Bool.not_true, Bool.not_false, cond_true, cond_false, List.length_map]) hc10
          obtain rfl := some_eq hc10
          (repeat (first | ((conv => whnf); (with_reducible refine And.intro ?_ ?_); (focus (first | exact Eq.refl _ | exact trivial | exact Int.natCast_nonneg _ | assumption | exact Nat.le_of_ble_eq_true (Eq.refl true) | decide))))); (conv => whnf)
          exact Exists.intro (rn []) (WS.mk (wt_cons wd_ptr (wt_cons (wd_c (we_b (by first | exact Eq.refl _ | simp only [hc11, hc12, Bool.and_true, Bool.true_and, Bool.and_false, Bool.false_and, Bool.or_true, Bool.true_or, Bool.or_false, Bool.false_or, Bool.not_true, Bool.not_false, cond_true, cond_false, List.length_map]))) wt_nil)) (wb_cons rfl (wc_c (WE.refl _) (wc_c (WE.refl _) (wc_c (WE.refl _) (wc_c (WE.refl _) (wc_c (WE.refl _) (wc_c (WE.refl _) wc_nil)))))) wb_nil))
        · (conv => whnf)
          (repeat (first | ((conv => whnf); (with_reducible refine And.intro ?_ ?_); (focus (first | exact Eq.refl _ | exact trivial | exact Int.natCast_nonneg _ | assumption | exact Nat.le_of_ble_eq_true (Eq.refl true) | decide))))); (conv => whnf)
          intro hlen7
          (try rw [List.length_map] at hlen7)
          (try rw [List.length_map])
          (repeat (first | ((conv => whnf); (with_reducible refine And.intro ?_ ?_); (focus (first | exact Eq.refl _ | exact trivial | exact Int.natCast_nonneg _ | assumption | exact Nat.le_of_ble_eq_true (Eq.refl true) | decide))))); (conv => whnf)
          refine branchG_intro false (fun hc13 => ?_) (fun hc13 => ?_)
          · (conv => whnf)
            have hc10 := if_then (by first | assumption | exact Eq.refl _ | simp only [hc11, hc12, hc13, Bool.and_true, Bool.true_and, Bool.and_false, Bool.false_and, Bool.or_true, Bool.true_or, Bool.or_false, Bool.false_or, Bool.not_true, Bool.not_false, cond_true, cond_false, List.length_map]) hc10
            obtain rfl := some_eq hc10
            (repeat (first | ((conv => whnf); (with_reducible refine And.intro ?_ ?_); (focus (first | exact Eq.refl _ | exact trivial | exact Int.natCast_nonneg _ | assumption | exact Nat.le_of_ble_eq_true (Eq.refl true) | decide))))); (conv => whnf)
            exact Exists.intro (rn []) (WS.mk (wt_cons wd_ptr (wt_cons (wd_c (we_b (by first | exact Eq.refl _ | simp only [hc11, hc12, hc13, Bool.and_true, Bool.true_and, Bool.and_false, Bool.false_and, Bool.or_true, Bool.true_or, Bool.or_false, Bool.false_or, Bool.not_true, Bool.not_false, cond_true, cond_false, List.length_map]))) wt_nil)) (wb_cons rfl (wc_c (WE.refl _) (wc_c (WE.refl _) (wc_c (WE.refl _) (wc_c (WE.refl _) (wc_c (WE.refl _) (wc_c (WE.refl _) wc_nil)))))) wb_nil))
          · (conv => whnf)
            (repeat (first | ((conv => whnf); (with_reducible refine And.intro ?_ ?_); (focus (first | exact Eq.refl _ | exact trivial | exact Int.natCast_nonneg _ | assumption | exact Nat.le_of_ble_eq_true (Eq.refl true) | decide))))); (conv => whnf)
            refine branchG_intro true (fun hc14 => ?_) (fun hc14 => ?_)
            · (conv => whnf)
              (repeat (first | ((conv => whnf); (with_reducible refine And.intro ?_ ?_); (focus (first | exact Eq.refl _ | exact trivial | exact Int.natCast_nonneg _ | assumption | exact Nat.le_of_ble_eq_true (Eq.refl true) | decide))))); (conv => whnf)
              refine branchG_intro false (fun hc15 => ?_) (fun hc15 => ?_)
              · have hc10 := if_then (by first | assumption | exact Eq.refl _ | simp only [hc11, hc12, hc13, hc14, hc15, Bool.and_true, Bool.true_and, Bool.and_false, Bool.false_and, Bool.or_true, Bool.true_or, Bool.or_false, Bool.false_or, Bool.not_true, Bool.not_false, cond_true, cond_false, List.length_map]) hc10
                (conv => whnf)
                obtain rfl := some_eq hc10
                (repeat (first | ((conv => whnf); (with_reducible refine And.intro ?_ ?_); (focus (first | exact Eq.refl _ | exact trivial | exact Int.natCast_nonneg _ | assumption | exact Nat.le_of_ble_eq_true (Eq.refl true) | decide))))); (conv => whnf)
                exact Exists.intro (rn []) (WS.mk (wt_cons wd_ptr (wt_cons (wd_c (we_b (by first | exact Eq.refl _ | simp only [hc11, hc12, hc13, hc14, hc15, Bool.and_true, Bool.true_and, Bool.and_false, Bool.false_and, Bool.or_true, Bool.true_or, Bool.or_false, Bool.false_or, Bool.not_true, Bool.not_false, cond_true, cond_false, List.length_map]))) wt_nil)) (wb_cons rfl (wc_c (WE.refl _) (wc_c (WE.refl _) (wc_c (WE.refl _) (wc_c (WE.refl _) (wc_c (WE.refl _) (wc_c (WE.refl _) wc_nil)))))) wb_nil))
              · have hc10 := if_else (by first | assumption | exact Eq.refl _ | simp only [hc11, hc12, hc13, hc14, hc15, Bool.and_true, Bool.true_and, Bool.and_false, Bool.false_and, Bool.or_true, Bool.true_or, Bool.or_false, Bool.false_or, Bool.not_true, Bool.not_false, cond_true, cond_false, List.length_map]) hc10
                obtain ⟨c9, hc9, hc10⟩ := bind_some hc10
                (conv => whnf)
                (repeat (first | ((conv => whnf); (with_reducible refine And.intro ?_ ?_); (focus (first | exact Eq.refl _ | exact trivial | exact Int.natCast_nonneg _ | assumption | exact Nat.le_of_ble_eq_true (Eq.refl true) | decide))))); (conv => whnf)
                refine branchG_intro true (fun hc16 => ?_) (fun hc16 => ?_)
                · have hc9 := if_then (by first | assumption | exact Eq.refl _ | simp only [hc11, hc12, hc13, hc14, hc15, hc16, Bool.and_true, Bool.true_and, Bool.and_false, Bool.false_and, Bool.or_true, Bool.true_or, Bool.or_false, Bool.false_or, Bool.not_true, Bool.not_false, cond_true, cond_false, List.length_map]) hc9
                  obtain ⟨r8, hr8, hc9⟩ := bind_some hc9
                  (conv => whnf)
                  (repeat (first | ((conv => whnf); (with_reducible refine And.intro ?_ ?_); (focus (first | exact Eq.refl _ | exact trivial | exact Int.natCast_nonneg _ | assumption | exact Nat.le_of_ble_eq_true (Eq.refl true) | decide))))); (conv => whnf)
                  refine Exists.intro [] ?_
                  (repeat (first | ((conv => whnf); (with_reducible refine And.intro ?_ ?_); (focus (first | exact Eq.refl _ | exact trivial | exact Int.natCast_nonneg _ | assumption | exact Nat.le_of_ble_eq_true (Eq.refl true) | decide))))); (conv => whnf)
                  refine CallsX.mono (CallsX.weak (rn []) (values_noSet_ok toArray.fSet _ hr8) rfl (WS.mk (wt_cons (wd_agg (wl_cons (WE.refl _) (wl_cons (WE.refl _) wl_nil))) wt_nil) wb_nil)) ?_
                  rintro d b ⟨rfl, rfl⟩
                  (repeat (first | ((conv => whnf); (with_reducible refine And.intro ?_ ?_); (focus (first | exact Eq.refl _ | exact trivial | exact Int.natCast_nonneg _ | assumption | exact Nat.le_of_ble_eq_true (Eq.refl true) | decide))))); (conv => whnf)
                  obtain rfl := some_eq hc9
                  obtain rfl := some_eq hc10
                  (repeat (first | ((conv => whnf); (with_reducible refine And.intro ?_ ?_); (focus (first | exact Eq.refl _ | exact trivial | exact Int.natCast_nonneg _ | assumption | exact Nat.le_of_ble_eq_true (Eq.refl true) | decide))))); (conv => whnf)
                  exact Exists.intro (rn []) (WS.mk (wt_cons wd_ptr (wt_cons (wd_c (we_b (by first | exact Eq.refl _ | simp only [hc11, hc12, hc13, hc14, hc15, hc16, Bool.and_true, Bool.true_and, Bool.and_false, Bool.false_and, Bool.or_true, Bool.true_or, Bool.or_false, Bool.false_or, Bool.not_true, Bool.not_false, cond_true, cond_false, List.length_map]))) wt_nil)) (wb_cons rfl (wc_c (WE.refl _) (wc_c (WE.refl _) (wc_c (WE.refl _) (wc_c (WE.refl _) (wc_c (WE.refl _) (wc_c (WE.refl _) wc_nil)))))) wb_nil))
                · have hc9 := if_else (by first | assumption | exact Eq.refl _ | simp only [hc11, hc12, hc13, hc14, hc15, hc16, Bool.and_true, Bool.true_and, Bool.and_false, Bool.false_and, Bool.or_true, Bool.true_or, Bool.or_false, Bool.false_or, Bool.not_true, Bool.not_false, cond_true, cond_false, List.length_map]) hc9
                  (conv => whnf)
                  obtain rfl := some_eq hc9
                  obtain rfl := some_eq hc10
                  (repeat (first | ((conv => whnf); (with_reducible refine And.intro ?_ ?_); (focus (first | exact Eq.refl _ | exact trivial | exact Int.natCast_nonneg _ | assumption | exact Nat.le_of_ble_eq_true (Eq.refl true) | decide))))); (conv => whnf)
                  exact Exists.intro (rn []) (WS.mk (wt_cons wd_ptr (wt_cons (wd_c (we_b (by first | exact Eq.refl _ | simp only [hc11, hc12, hc13, hc14, hc15, hc16, Bool.and_true, Bool.true_and, Bool.and_false, Bool.false_and, Bool.or_true, Bool.true_or, Bool.or_false, Bool.false_or, Bool.not_true, Bool.not_false, cond_true, cond_false, List.length_map]))) wt_nil)) (wb_cons rfl (wc_c (WE.refl _) (wc_c (WE.refl _) (wc_c (WE.refl _) (wc_c (WE.refl _) (wc_c (WE.refl _) (wc_c (WE.refl _) wc_nil)))))) wb_nil))
            · (conv => whnf)
              have hc10 := if_else (by first | assumption | exact Eq.refl _ | simp only [hc11, hc12, hc13, hc14, Bool.and_true, Bool.true_and, Bool.and_false, Bool.false_and, Bool.or_true, Bool.true_or, Bool.or_false, Bool.false_or, Bool.not_true, Bool.not_false, cond_true, cond_false, List.length_map]) hc10
              obtain ⟨c9, hc9, hc10⟩ := bind_some hc10
              (repeat (first | ((conv => whnf); (with_reducible refine And.intro ?_ ?_); (focus (first | exact Eq.refl _ | exact trivial | exact Int.natCast_nonneg _ | assumption | exact Nat.le_of_ble_eq_true (Eq.refl true) | decide))))); (conv => whnf)
              refine branchG_intro true (fun hc17 => ?_) (fun hc17 => ?_)
              · have hc9 := if_then (by first | assumption | exact Eq.refl _ | simp only [hc11, hc12, hc13, hc14, hc17, Bool.and_true, Bool.true_and, Bool.and_false, Bool.false_and, Bool.or_true, Bool.true_or, Bool.or_false, Bool.false_or, Bool.not_true, Bool.not_false, cond_true, cond_false, List.length_map]) hc9
                obtain ⟨r8, hr8, hc9⟩ := bind_some hc9
                (conv => whnf)
                (repeat (first | ((conv => whnf); (with_reducible refine And.intro ?_ ?_); (focus (first | exact Eq.refl _ | exact trivial | exact Int.natCast_nonneg _ | assumption | exact Nat.le_of_ble_eq_true (Eq.refl true) | decide))))); (conv => whnf)
                refine Exists.intro [] ?_
                (repeat (first | ((conv => whnf); (with_reducible refine And.intro ?_ ?_); (focus (first | exact Eq.refl _ | exact trivial | exact Int.natCast_nonneg _ | assumption | exact Nat.le_of_ble_eq_true (Eq.refl true) | decide))))); (conv => whnf)
                refine CallsX.mono (CallsX.weak (rn []) (values_noSet_ok toArray.fSet _ hr8) rfl (WS.mk (wt_cons (wd_agg (wl_cons (WE.refl _) (wl_cons (WE.refl _) wl_nil))) wt_nil) wb_nil)) ?_
                rintro d b ⟨rfl, rfl⟩
                (repeat (first | ((conv => whnf); (with_reducible refine And.intro ?_ ?_); (focus (first | exact Eq.refl _ | exact trivial | exact Int.natCast_nonneg _ | assumption | exact Nat.le_of_ble_eq_true (Eq.refl true) | decide))))); (conv => whnf)
                obtain rfl := some_eq hc9
                obtain rfl := some_eq hc10
                (repeat (first | ((conv => whnf); (with_reducible refine And.intro ?_ ?_); (focus (first | exact Eq.refl _ | exact trivial | exact Int.natCast_nonneg _ | assumption | exact Nat.le_of_ble_eq_true (Eq.refl true) | decide))))); (conv => whnf)
                exact Exists.intro (rn []) (WS.mk (wt_cons wd_ptr (wt_cons (wd_c (we_b (by first | exact Eq.refl _ | simp only [hc11, hc12, hc13, hc14, hc17, Bool.and_true, Bool.true_and, Bool.and_false, Bool.false_and, Bool.or_true, Bool.true_or, Bool.or_false, Bool.false_or, Bool.not_true, Bool.not_false, cond_true, cond_false, List.length_map]))) wt_nil)) (wb_cons rfl (wc_c (WE.refl _) (wc_c (WE.refl _) (wc_c (WE.refl _) (wc_c (WE.refl _) (wc_c (WE.refl _) (wc_c (WE.refl _) wc_nil)))))) wb_nil))
              · have hc9 := if_else (by first | assumption | exact Eq.refl _ | simp only [hc11, hc12, hc13, hc14, hc17, Bool.and_true, Bool.true_and, Bool.and_false, Bool.false_and, Bool.or_true, Bool.true_or, Bool.or_false, Bool.false_or, Bool.not_true, Bool.not_false, cond_true, cond_false, List.length_map]) hc9
                (conv => whnf)
                obtain rfl := some_eq hc9
                obtain rfl := some_eq hc10
                (repeat (first | ((conv => whnf); (with_reducible refine And.intro ?_ ?_); (focus (first | exact Eq.refl _ | exact trivial | exact Int.natCast_nonneg _ | assumption | exact Nat.le_of_ble_eq_true (Eq.refl true) | decide))))); (conv => whnf)
                exact Exists.intro (rn []) (WS.mk (wt_cons wd_ptr (wt_cons (wd_c (we_b (by first | exact Eq.refl _ | simp only [hc11, hc12, hc13, hc14, hc17, Bool.and_true, Bool.true_and, Bool.and_false, Bool.false_and, Bool.or_true, Bool.true_or, Bool.or_false, Bool.false_or, Bool.not_true, Bool.not_false, cond_true, cond_false, List.length_map]))) wt_nil)) (wb_cons rfl (wc_c (WE.refl _) (wc_c (WE.refl _) (wc_c (WE.refl _) (wc_c (WE.refl _) (wc_c (WE.refl _) (wc_c (WE.refl _) wc_nil)))))) wb_nil))
      · (conv => whnf)
        (repeat (first | ((conv => whnf); (with_reducible refine And.intro ?_ ?_); (focus (first | exact Eq.refl _ | exact trivial | exact Int.natCast_nonneg _ | assumption | exact Nat.le_of_ble_eq_true (Eq.refl true) | decide))))); (conv => whnf)
        refine branchG_intro true (fun hc18 => ?_) (fun hc18 => ?_)
        · (conv => whnf)
          (repeat (first | ((conv => whnf); (with_reducible refine And.intro ?_ ?_); (focus (first | exact Eq.refl _ | exact trivial | exact Int.natCast_nonneg _ | assumption | exact Nat.le_of_ble_eq_true (Eq.refl true) | decide))))); (conv => whnf)
          refine branchG_intro false (fun hc19 => ?_) (fun hc19 => ?_)
          · have hc10 := if_then (by first | assumption | exact Eq.refl _ | simp only [hc11, hc18, hc19, Bool.and_true, Bool.true_and, Bool.and_false, Bool.false_and, Bool.or_true, Bool.true_or, Bool.or_false, Bool.false_or, Bool.not_true, Bool.not_false, cond_true, cond_false, List.length_map]) hc10
            (conv => whnf)
            obtain rfl := some_eq hc10
            (repeat (first | ((conv => whnf); (with_reducible refine And.intro ?_ ?_); (focus (first | exact Eq.refl _ | exact trivial | exact Int.natCast_nonneg _ | assumption | exact Nat.le_of_ble_eq_true (Eq.refl true) | decide))))); (conv => whnf)
            exact Exists.intro (rn []) (WS.mk (wt_cons wd_ptr (wt_cons (wd_c (we_b (by first | exact Eq.refl _ | simp only [hc11, hc18, hc19, Bool.and_true, Bool.true_and, Bool.and_false, Bool.false_and, Bool.or_true, Bool.true_or, Bool.or_false, Bool.false_or, Bool.not_true, Bool.not_false, cond_true, cond_false, List.length_map]))) wt_nil)) (wb_cons rfl (wc_c (WE.refl _) (wc_c (WE.refl _) (wc_c (WE.refl _) (wc_c (WE.refl _) (wc_c (WE.refl _) (wc_c (WE.refl _) wc_nil)))))) wb_nil))
          · have hc10 := if_else (by first | assumption | exact Eq.refl _ | simp only [hc11, hc18, hc19, Bool.and_true, Bool.true_and, Bool.and_false, Bool.false_and, Bool.or_true, Bool.true_or, Bool.or_false, Bool.false_or, Bool.not_true, Bool.not_false, cond_true, cond_false, List.length_map]) hc10
            obtain ⟨c9, hc9, hc10⟩ := bind_some hc10
            (conv => whnf)
            (repeat (first | ((conv => whnf); (with_reducible refine And.intro ?_ ?_); (focus (first | exact Eq.refl _ | exact trivial | exact Int.natCast_nonneg _ | assumption | exact Nat.le_of_ble_eq_true (Eq.refl true) | decide))))); (conv => whnf)
            refine branchG_intro true (fun hc20 => ?_) (fun hc20 => ?_)
            · have hc9 := if_then (by first | assumption | exact Eq.refl _ | simp only [hc11, hc18, hc19, hc20, Bool.and_true, Bool.true_and, Bool.and_false, Bool.false_and, Bool.or_true, Bool.true_or, Bool.or_false, Bool.false_or, Bool.not_true, Bool.not_false, cond_true, cond_false, List.length_map]) hc9
              obtain ⟨r8, hr8, hc9⟩ := bind_some hc9
              (conv => whnf)
              (repeat (first | ((conv => whnf); (with_reducible refine And.intro ?_ ?_); (focus (first | exact Eq.refl _ | exact trivial | exact Int.natCast_nonneg _ | assumption | exact Nat.le_of_ble_eq_true (Eq.refl true) | decide))))); (conv => whnf)
              refine Exists.intro [] ?_
              (repeat (first | ((conv => whnf); (with_reducible refine And.intro ?_ ?_); (focus (first | exact Eq.refl _ | exact trivial | exact Int.natCast_nonneg _ | assumption | exact Nat.le_of_ble_eq_true (Eq.refl true) | decide))))); (conv => whnf)
              refine CallsX.mono (CallsX.weak (rn []) (values_noSet_ok toArray.fSet _ hr8) rfl (WS.mk (wt_cons (wd_agg (wl_cons (WE.refl _) (wl_cons (WE.refl _) wl_nil))) wt_nil) wb_nil)) ?_
              rintro d b ⟨rfl, rfl⟩
              (repeat (first | ((conv => whnf); (with_reducible refine And.intro ?_ ?_); (focus (first | exact Eq.refl _ | exact trivial | exact Int.natCast_nonneg _ | assumption | exact Nat.le_of_ble_eq_true (Eq.refl true) | decide))))); (conv => whnf)
              obtain rfl := some_eq hc9
              obtain rfl := some_eq hc10
              (repeat (first | ((conv => whnf); (with_reducible refine And.intro ?_ ?_); (focus (first | exact Eq.refl _ | exact trivial | exact Int.natCast_nonneg _ | assumption | exact Nat.le_of_ble_eq_true (Eq.refl true) | decide))))); (conv => whnf)
              exact Exists.intro (rn []) (WS.mk (wt_cons wd_ptr (wt_cons (wd_c (we_b (by first | exact Eq.refl _ | simp only [hc11, hc18, hc19, hc20, Bool.and_true, Bool.true_and, Bool.and_false, Bool.false_and, Bool.or_true, Bool.true_or, Bool.or_false, Bool.false_or, Bool.not_true, Bool.not_false, cond_true, cond_false, List.length_map]))) wt_nil)) (wb_cons rfl (wc_c (WE.refl _) (wc_c (WE.refl _) (wc_c (WE.refl _) (wc_c (WE.refl _) (wc_c (WE.refl _) (wc_c (WE.refl _) wc_nil)))))) wb_nil))
            · have hc9 := if_else (by first | assumption | exact Eq.refl _ | simp only [hc11, hc18, hc19, hc20, Bool.and_true, Bool.true_and, Bool.and_false, Bool.false_and, Bool.or_true, Bool.true_or, Bool.or_false, Bool.false_or, Bool.not_true, Bool.not_false, cond_true, cond_false, List.length_map]) hc9
              (conv => whnf)
              obtain rfl := some_eq hc9
              obtain rfl := some_eq hc10
              (repeat (first | ((conv => whnf); (with_reducible refine And.intro ?_ ?_); (focus (first | exact Eq.refl _ | exact trivial | exact Int.natCast_nonneg _ | assumption | exact Nat.le_of_ble_eq_true (Eq.refl true) | decide))))); (conv => whnf)
              exact Exists.intro (rn []) (WS.mk (wt_cons wd_ptr (wt_cons (wd_c (we_b (by first | exact Eq.refl _ | simp only [hc11, hc18, hc19, hc20, Bool.and_true, Bool.true_and, Bool.and_false, Bool.false_and, Bool.or_true, Bool.true_or, Bool.or_false, Bool.false_or, Bool.not_true, Bool.not_false, cond_true, cond_false, List.length_map]))) wt_nil)) (wb_cons rfl (wc_c (WE.refl _) (wc_c (WE.refl _) (wc_c (WE.refl _) (wc_c (WE.refl _) (wc_c (WE.refl _) (wc_c (WE.refl _) wc_nil)))))) wb_nil))
        · (conv => whnf)
          have hc10 := if_else (by first | assumption | exact Eq.refl _ | simp only [hc11, hc18, Bool.and_true, Bool.true_and, Bool.and_false, Bool.false_and, Bool.or_true, Bool.true_or, Bool.or_false, Bool.false_or, Bool.not_true, Bool.not_false, cond_true, cond_false, List.length_map]) hc10
          obtain ⟨c9, hc9, hc10⟩ := bind_some hc10
          (repeat (first | ((conv => whnf); (with_reducible refine And.intro ?_ ?_); (focus (first | exact Eq.refl _ | exact trivial | exact Int.natCast_nonneg _ | assumption | exact Nat.le_of_ble_eq_true (Eq.refl true) | decide))))); (conv => whnf)
          refine branchG_intro true (fun hc21 => ?_) (fun hc21 => ?_)
          · have hc9 := if_then (by first | assumption | exact Eq.refl _ | simp only [hc11, hc18, hc21, Bool.and_true, Bool.true_and, Bool.and_false, Bool.false_and, Bool.or_true, Bool.true_or, Bool.or_false, Bool.false_or, Bool.not_true, Bool.not_false, cond_true, cond_false, List.length_map]) hc9
            obtain ⟨r8, hr8, hc9⟩ := bind_some hc9
            (conv => whnf)
            (repeat (first | ((conv => whnf); (with_reducible refine And.intro ?_ ?_); (focus (first | exact Eq.refl _ | exact trivial | exact Int.natCast_nonneg _ | assumption | exact Nat.le_of_ble_eq_true (Eq.refl true) | decide))))); (conv => whnf)
            refine Exists.intro [] ?_
            (repeat (first | ((conv => whnf); (with_reducible refine And.intro ?_ ?_); (focus (first | exact Eq.refl _ | exact trivial | exact Int.natCast_nonneg _ | assumption | exact Nat.le_of_ble_eq_true (Eq.refl true) | decide))))); (conv => whnf)
            refine CallsX.mono (CallsX.weak (rn []) (values_noSet_ok toArray.fSet _ hr8) rfl (WS.mk (wt_cons (wd_agg (wl_cons (WE.refl _) (wl_cons (WE.refl _) wl_nil))) wt_nil) wb_nil)) ?_
            rintro d b ⟨rfl, rfl⟩
            (repeat (first | ((conv => whnf); (with_reducible refine And.intro ?_ ?_); (focus (first | exact Eq.refl _ | exact trivial | exact Int.natCast_nonneg _ | assumption | exact Nat.le_of_ble_eq_true (Eq.refl true) | decide))))); (conv => whnf)
            obtain rfl := some_eq hc9
            obtain rfl := some_eq hc10
            (repeat (first | ((conv => whnf); (with_reducible refine And.intro ?_ ?_); (focus (first | exact Eq.refl _ | exact trivial | exact Int.natCast_nonneg _ | assumption | exact Nat.le_of_ble_eq_true (Eq.refl true) | decide))))); (conv => whnf)
            exact Exists.intro (rn []) (WS.mk (wt_cons wd_ptr (wt_cons (wd_c (we_b (by first | exact Eq.refl _ | simp only [hc11, hc18, hc21, Bool.and_true, Bool.true_and, Bool.and_false, Bool.false_and, Bool.or_true, Bool.true_or, Bool.or_false, Bool.false_or, Bool.not_true, Bool.not_false, cond_true, cond_false, List.length_map]))) wt_nil)) (wb_cons rfl (wc_c (WE.refl _) (wc_c (WE.refl _) (wc_c (WE.refl _) (wc_c (WE.refl _) (wc_c (WE.refl _) (wc_c (WE.refl _) wc_nil)))))) wb_nil))
          · have hc9 := if_else (by first | assumption | exact Eq.refl _ | simp only [hc11, hc18, hc21, Bool.and_true, Bool.true_and, Bool.and_false, Bool.false_and, Bool.or_true, Bool.true_or, Bool.or_false, Bool.false_or, Bool.not_true, Bool.not_false, cond_true, cond_false, List.length_map]) hc9
            (conv => whnf)
            obtain rfl := some_eq hc9
            obtain rfl := some_eq hc10
            (repeat (first | ((conv => whnf); (with_reducible refine And.intro ?_ ?_); (focus (first | exact Eq.refl _ | exact trivial | exact Int.natCast_nonneg _ | assumption | exact Nat.le_of_ble_eq_true (Eq.refl true) | decide))))); (conv => whnf)
            exact Exists.intro (rn []) (WS.mk (wt_cons wd_ptr (wt_cons (wd_c (we_b (by first | exact Eq.refl _ | simp only [hc11, hc18, hc21, Bool.and_true, Bool.true_and, Bool.and_false, Bool.false_and, Bool.or_true, Bool.true_or, Bool.or_false, Bool.false_or, Bool.not_true, Bool.not_false, cond_true, cond_false, List.length_map]))) wt_nil)) (wb_cons rfl (wc_c (WE.refl _) (wc_c (WE.refl _) (wc_c (WE.refl _) (wc_c (WE.refl _) (wc_c (WE.refl _) (wc_c (WE.refl _) wc_nil)))))) wb_nil))
    obtain ⟨r0, hw⟩ := hw
    (conv => whnf)
    refine AWP.weak r0 hw ?_
    refine nd (by decide) _ _ _ ?_
    (conv => whnf)
    refine branch_hF hF (fun hc22 hF => ?_) (fun hc22 hF => ?_)
    · refine AWP.seq ?_
      refine nd (by decide) _ _ _ ?_
      (repeat (first | ((conv => whnf); (with_reducible refine And.intro ?_ ?_); (focus (first | exact Eq.refl _ | exact trivial | exact Int.natCast_nonneg _ | assumption | exact Nat.le_of_ble_eq_true (Eq.refl true) | decide))))); (conv => whnf)
      obtain rfl := some_eq hF
      refine nd (by decide) _ _ _ ?_
      (repeat (first | ((conv => whnf); (with_reducible refine And.intro ?_ ?_); (focus (first | exact Eq.refl _ | exact trivial | exact Int.natCast_nonneg _ | assumption | exact Nat.le_of_ble_eq_true (Eq.refl true) | decide))))); (conv => whnf)
      exact Exists.intro (rn []) (WS.mk (wt_cons (wd_c (WE.refl _)) wt_nil) wb_nil)
    · refine nd (by decide) _ _ _ ?_
      (conv => whnf)
      refine AWP.seq ?_
      refine AWP.seq ?_
      refine nd (by decide) _ _ _ ?_
      (repeat (first | ((conv => whnf); (with_reducible refine And.intro ?_ ?_); (focus (first | exact Eq.refl _ | exact trivial | exact Int.natCast_nonneg _ | assumption | exact Nat.le_of_ble_eq_true (Eq.refl true) | decide))))); (conv => whnf)
      refine AWP.block ?_
      refine AWP.seq ?_
      refine AWP.seq ?_
      refine nd (by decide) _ _ _ ?_
      (repeat (first | ((conv => whnf); (with_reducible refine And.intro ?_ ?_); (focus (first | exact Eq.refl _ | exact trivial | exact Int.natCast_nonneg _ | assumption | exact Nat.le_of_ble_eq_true (Eq.refl true) | decide))))); (conv => whnf)
      refine nd (by decide) _ _ _ ?_
      (conv => whnf)
      refine branch_hF hF (fun hc65 hF => ?_) (fun hc65 hF => ?_)
      · refine nd (by decide) _ _ _ ?_
        (conv => whnf)
        refine AWP.weak (rn []) ?_ (ih_values_formed_k1 toArray (toArray.fOp == 1) _ hF)
        exact (WS.mk (wt_cons wd_ptr (wt_cons (wd_c (WE.refl _)) (wt_cons (wd_c (WE.refl _)) wt_nil))) (wb_cons rfl (wc_c (WE.refl _) (wc_c (WE.refl _) (wc_c (WE.refl _) (wc_c (WE.refl _) (wc_c (WE.refl _) (wc_c (WE.refl _) wc_nil)))))) wb_nil))
      · refine AWP.seq ?_
        refine nd (by decide) _ _ _ ?_
        (repeat (first | ((conv => whnf); (with_reducible refine And.intro ?_ ?_); (focus (first | exact Eq.refl _ | exact trivial | exact Int.natCast_nonneg _ | assumption | exact Nat.le_of_ble_eq_true (Eq.refl true) | decide))))); (conv => whnf)
        refine nd (by decide) _ _ _ ?_
        (conv => whnf)
        refine branch_hF hF (fun hc66 hF => ?_) (fun hc66 hF => ?_)
        · refine nd (by decide) _ _ _ ?_
          (conv => whnf)
          refine AWP.weak (rn []) ?_ (ih_values_formed_k1 toArray (toArray.fOp == 4) _ hF)
          exact (WS.mk (wt_cons wd_ptr (wt_cons (wd_c (WE.refl _)) (wt_cons (wd_c (WE.refl _)) wt_nil))) (wb_cons rfl (wc_c (WE.refl _) (wc_c (WE.refl _) (wc_c (WE.refl _) (wc_c (WE.refl _) (wc_c (WE.refl _) (wc_c (WE.refl _) wc_nil)))))) wb_nil))
        · refine nd (by decide) _ _ _ ?_
          (repeat (first | ((conv => whnf); (with_reducible refine And.intro ?_ ?_); (focus (first | exact Eq.refl _ | exact trivial | exact Int.natCast_nonneg _ | assumption | exact Nat.le_of_ble_eq_true (Eq.refl true) | decide))))); (conv => whnf)
          refine AWP.weak (rn []) ?_ (ih_values_formed_k1 toArray (toArray.fOp == 6) _ hF)
          exact (WS.mk (wt_cons wd_ptr (wt_cons (wd_c (WE.refl _)) (wt_cons (wd_c (WE.refl _)) wt_nil))) (wb_cons rfl (wc_c (WE.refl _) (wc_c (WE.refl _) (wc_c (WE.refl _) (wc_c (WE.refl _) (wc_c (WE.refl _) (wc_c (WE.refl _) wc_nil)))))) wb_nil))
  · intro values_formed_l2' ih_values_formed_l2 toArray x_53 r hF
    unfold values_formed_k1.M
    refine nd (by decide) _ _ _ ?_
    (conv => whnf)
    refine branch_hF hF (fun hc25 hF => ?_) (fun hc25 hF => ?_)
    · refine AWP.seq ?_
      refine nd (by decide) _ _ _ ?_
      (repeat (first | ((conv => whnf); (with_reducible refine And.intro ?_ ?_); (focus (first | exact Eq.refl _ | exact trivial | exact Int.natCast_nonneg _ | assumption | exact Nat.le_of_ble_eq_true (Eq.refl true) | decide))))); (conv => whnf)
      obtain rfl := some_eq hF
      refine nd (by decide) _ _ _ ?_
      (repeat (first | ((conv => whnf); (with_reducible refine And.intro ?_ ?_); (focus (first | exact Eq.refl _ | exact trivial | exact Int.natCast_nonneg _ | assumption | exact Nat.le_of_ble_eq_true (Eq.refl true) | decide))))); (conv => whnf)
      exact Exists.intro (rn []) (WS.mk (wt_cons (wd_c (WE.refl _)) wt_nil) wb_nil)
    · refine AWP.seq ?_
      refine nd (by decide) _ _ _ ?_
      (repeat (first | ((conv => whnf); (with_reducible refine And.intro ?_ ?_); (focus (first | exact Eq.refl _ | exact trivial | exact Int.natCast_nonneg _ | assumption | exact Nat.le_of_ble_eq_true (Eq.refl true) | decide))))); (conv => whnf)
      refine nd (by decide) _ _ _ ?_
      (conv => whnf)
      refine branch_hF hF (fun hc26 hF => ?_) (fun hc26 hF => ?_)
      · refine AWP.seq ?_
        refine AWP.cutN (fun T => ∃ r, WS r T ⟨[(2, .c none (.v (.bool ((decide (toArray.fN ≥ 0)) && (decide (toArray.fN ≤ 255))))))], []⟩) ?_ (fun T hw => ?_)
        · refine nd (by decide) _ _ _ ?_
          (repeat (first | ((conv => whnf); (with_reducible refine And.intro ?_ ?_); (focus (first | exact Eq.refl _ | exact trivial | exact Int.natCast_nonneg _ | assumption | exact Nat.le_of_ble_eq_true (Eq.refl true) | decide))))); (conv => whnf)
          refine branchG_intro true (fun hc27 => ?_) (fun hc27 => ?_)
          · (conv => whnf)
            (repeat (first | ((conv => whnf); (with_reducible refine And.intro ?_ ?_); (focus (first | exact Eq.refl _ | exact trivial | exact Int.natCast_nonneg _ | assumption | exact Nat.le_of_ble_eq_true (Eq.refl true) | decide))))); (conv => whnf)
            exact Exists.intro (rn []) (WS.mk (wt_cons (wd_c (we_b (by first | exact Eq.refl _ | simp only [hc27, Bool.and_true, Bool.true_and, Bool.and_false, Bool.false_and, Bool.or_true, Bool.true_or, Bool.or_false, Bool.false_or, Bool.not_true, Bool.not_false, cond_true, cond_false, List.length_map]))) wt_nil) wb_nil)
          · (conv => whnf)
            (repeat (first | ((conv => whnf); (with_reducible refine And.intro ?_ ?_); (focus (first | exact Eq.refl _ | exact trivial | exact Int.natCast_nonneg _ | assumption | exact Nat.le_of_ble_eq_true (Eq.refl true) | decide))))); (conv => whnf)
            exact Exists.intro (rn []) (WS.mk (wt_cons (wd_c (we_b (by first | exact Eq.refl _ | simp only [hc27, Bool.and_true, Bool.true_and, Bool.and_false, Bool.false_and, Bool.or_true, Bool.true_or, Bool.or_false, Bool.false_or, Bool.not_true, Bool.not_false, cond_true, cond_false, List.length_map]))) wt_nil) wb_nil)
        obtain ⟨r0, hw⟩ := hw
        (conv => whnf)
        refine AWP.weak r0 hw ?_
        obtain rfl := some_eq hF
        refine nd (by decide) _ _ _ ?_
        (repeat (first | ((conv => whnf); (with_reducible refine And.intro ?_ ?_); (focus (first | exact Eq.refl _ | exact trivial | exact Int.natCast_nonneg _ | assumption | exact Nat.le_of_ble_eq_true (Eq.refl true) | decide))))); (conv => whnf)
        exact Exists.intro (rn []) (WS.mk (wt_cons (wd_c (WE.refl _)) wt_nil) wb_nil)
      · refine AWP.seq ?_
        refine nd (by decide) _ _ _ ?_
        (repeat (first | ((conv => whnf); (with_reducible refine And.intro ?_ ?_); (focus (first | exact Eq.refl _ | exact trivial | exact Int.natCast_nonneg _ | assumption | exact Nat.le_of_ble_eq_true (Eq.refl true) | decide))))); (conv => whnf)
        refine nd (by decide) _ _ _ ?_
        (conv => whnf)
        refine branch_hF hF (fun hc28 hF => ?_) (fun hc28 hF => ?_)
        · refine AWP.seq ?_
          obtain ⟨r29, hr29, hF⟩ := bind_some hF
          refine nd (by decide) _ _ _ ?_
          (repeat (first | ((conv => whnf); (with_reducible refine And.intro ?_ ?_); (focus (first | exact Eq.refl _ | exact trivial | exact Int.natCast_nonneg _ | assumption | exact Nat.le_of_ble_eq_true (Eq.refl true) | decide))))); (conv => whnf)
          refine Exists.intro [] ?_
          (repeat (first | ((conv => whnf); (with_reducible refine And.intro ?_ ?_); (focus (first | exact Eq.refl _ | exact trivial | exact Int.natCast_nonneg _ | assumption | exact Nat.le_of_ble_eq_true (Eq.refl true) | decide))))); (conv => whnf)
          refine CallsX.mono (CallsX.weak (rn []) (values_validSet_ok toArray.fSet _ hr29) rfl (WS.mk (wt_cons (wd_agg (wl_cons (WE.refl _) (wl_cons (WE.refl _) wl_nil))) wt_nil) wb_nil)) ?_
          rintro d b ⟨rfl, rfl⟩
          (repeat (first | ((conv => whnf); (with_reducible refine And.intro ?_ ?_); (focus (first | exact Eq.refl _ | exact trivial | exact Int.natCast_nonneg _ | assumption | exact Nat.le_of_ble_eq_true (Eq.refl true) | decide))))); (conv => whnf)
          (repeat (first | ((conv => whnf); (with_reducible refine And.intro ?_ ?_); (focus (first | exact Eq.refl _ | exact trivial | exact Int.natCast_nonneg _ | assumption | exact Nat.le_of_ble_eq_true (Eq.refl true) | decide))))); (conv => whnf)
          obtain rfl := some_eq hF
          refine nd (by decide) _ _ _ ?_
          (repeat (first | ((conv => whnf); (with_reducible refine And.intro ?_ ?_); (focus (first | exact Eq.refl _ | exact trivial | exact Int.natCast_nonneg _ | assumption | exact Nat.le_of_ble_eq_true (Eq.refl true) | decide))))); (conv => whnf)
          exact Exists.intro (rn []) (WS.mk (wt_cons (wd_c (WE.refl _)) wt_nil) wb_nil)
        · refine AWP.seq ?_
          refine nd (by decide) _ _ _ ?_
          (repeat (first | ((conv => whnf); (with_reducible refine And.intro ?_ ?_); (focus (first | exact Eq.refl _ | exact trivial | exact Int.natCast_nonneg _ | assumption | exact Nat.le_of_ble_eq_true (Eq.refl true) | decide))))); (conv => whnf)
          refine nd (by decide) _ _ _ ?_
          (conv => whnf)
          refine branch_hF hF (fun hc30 hF => ?_) (fun hc30 hF => ?_)
          · refine AWP.seq ?_
            refine AWP.seq ?_
            refine nd (by decide) _ _ _ ?_
            (repeat (first | ((conv => whnf); (with_reducible refine And.intro ?_ ?_); (focus (first | exact Eq.refl _ | exact trivial | exact Int.natCast_nonneg _ | assumption | exact Nat.le_of_ble_eq_true (Eq.refl true) | decide))))); (conv => whnf)
            intro hlen47
            (try rw [List.length_map] at hlen47)
            (try rw [List.length_map])
            (repeat (first | ((conv => whnf); (with_reducible refine And.intro ?_ ?_); (focus (first | exact Eq.refl _ | exact trivial | exact Int.natCast_nonneg _ | assumption | exact Nat.le_of_ble_eq_true (Eq.refl true) | decide))))); (conv => whnf)
            refine AWP.block ?_
            refine AWP.loop ?_
            refine AWL.weak (rn []) ?_ (ih_values_formed_l2 toArray 0 toArray.fKids _ hF ([]) rfl rfl hlen47)
            exact (WS.mk (wt_cons wd_ptr (wt_cons (wd_c (WE.refl _)) (wt_cons (wd_c (WE.refl _)) (wt_cons (wd_c (WE.refl _)) wt_nil)))) (wb_cons rfl (wc_c (WE.refl _) (wc_c (WE.refl _) (wc_c (WE.refl _) (wc_c (WE.refl _) (wc_c (WE.refl _) (wc_c (WE.refl _) wc_nil)))))) wb_nil))
          · refine nd (by decide) _ _ _ ?_
            (conv => whnf)
            refine AWP.seq ?_
            refine nd (by decide) _ _ _ ?_
            (repeat (first | ((conv => whnf); (with_reducible refine And.intro ?_ ?_); (focus (first | exact Eq.refl _ | exact trivial | exact Int.natCast_nonneg _ | assumption | exact Nat.le_of_ble_eq_true (Eq.refl true) | decide))))); (conv => whnf)
            obtain rfl := some_eq hF
            refine nd (by decide) _ _ _ ?_
            (repeat (first | ((conv => whnf); (with_reducible refine And.intro ?_ ?_); (focus (first | exact Eq.refl _ | exact trivial | exact Int.natCast_nonneg _ | assumption | exact Nat.le_of_ble_eq_true (Eq.refl true) | decide))))); (conv => whnf)
            exact Exists.intro (rn []) (WS.mk (wt_cons (wd_c (WE.refl _)) wt_nil) wb_nil)
  · intro values_formed' values_formed_l2' ih_values_formed ih_values_formed_l2 toArray x_77 x_77_s_ r hF
    unfold values_formed_l2.M
    intro pre_x_77 hs_x_77 hk_x_77 hlen47
    refine AWL.step ?_
    refine AWP.seq ?_
    refine nd (by decide) _ _ _ ?_
    (repeat (first | ((conv => whnf); (with_reducible refine And.intro ?_ ?_); (focus (first | exact Eq.refl _ | exact trivial | exact Int.natCast_nonneg _ | assumption | exact Nat.le_of_ble_eq_true (Eq.refl true) | decide))))); (conv => whnf)
    refine AWP.seq ?_
    refine nd (by decide) _ _ _ ?_
    (conv => whnf)
    refine branch_list hs_x_77 hk_x_77 (fun x59 xs60 hp61 hx61 hl61 => ?_) (fun hp61 => ?_)
    · subst hp61
      refine nd (by decide) _ _ _ ?_
      (conv => whnf)
      refine AWP.seq ?_
      refine AWP.block ?_
      refine AWP.seq ?_
      refine nd (by decide) _ _ _ ?_
      (repeat (first | ((conv => whnf); (with_reducible refine And.intro ?_ ?_); (focus (first | exact Eq.refl _ | exact trivial | exact Int.natCast_nonneg _ | assumption | exact Nat.le_of_ble_eq_true (Eq.refl true) | decide))) | ((conv => whnf); rw [map_get (TValue.cells_eq x59) hx61]))); (conv => whnf)
      (repeat (first | ((conv => whnf); (with_reducible refine And.intro ?_ ?_); (focus (first | exact Eq.refl _ | exact trivial | exact Int.natCast_nonneg _ | assumption | exact Nat.le_of_ble_eq_true (Eq.refl true) | decide))))); (conv => whnf)
      refine AWP.seq ?_
      obtain ⟨r62, hr62, hF⟩ := bind_some hF
      refine nd (by decide) _ _ _ ?_
      (repeat (first | ((conv => whnf); (with_reducible refine And.intro ?_ ?_); (focus (first | exact Eq.refl _ | exact trivial | exact Int.natCast_nonneg _ | assumption | exact Nat.le_of_ble_eq_true (Eq.refl true) | decide))))); (conv => whnf)
      refine Exists.intro [] ?_
      (repeat (first | ((conv => whnf); (with_reducible refine And.intro ?_ ?_); (focus (first | exact Eq.refl _ | exact trivial | exact Int.natCast_nonneg _ | assumption | exact Nat.le_of_ble_eq_true (Eq.refl true) | decide))))); (conv => whnf)
      refine CallsX.mono (CallsX.weak (rn []) (ih_values_formed x59 _ hr62) rfl (WS.mk (wt_cons (wd_agg (wl_cons (WE.refl _) (wl_cons (WE.refl _) (wl_cons (WE.refl _) (wl_cons (WE.refl _) (wl_cons (WE.refl _) (wl_cons (WE.refl _) wl_nil))))))) wt_nil) wb_nil)) ?_
      rintro d b ⟨rfl, rfl⟩
      (repeat (first | ((conv => whnf); (with_reducible refine And.intro ?_ ?_); (focus (first | exact Eq.refl _ | exact trivial | exact Int.natCast_nonneg _ | assumption | exact Nat.le_of_ble_eq_true (Eq.refl true) | decide))))); (conv => whnf)
      (repeat (first | ((conv => whnf); (with_reducible refine And.intro ?_ ?_); (focus (first | exact Eq.refl _ | exact trivial | exact Int.natCast_nonneg _ | assumption | exact Nat.le_of_ble_eq_true (Eq.refl true) | decide))))); (conv => whnf)
      refine nd (by decide) _ _ _ ?_
      (conv => whnf)
      refine branch_hF hF (fun hc63 hF => ?_) (fun hc63 hF => ?_)
      · refine AWP.seq ?_
        refine nd (by decide) _ _ _ ?_
        (repeat (first | ((conv => whnf); (with_reducible refine And.intro ?_ ?_); (focus (first | exact Eq.refl _ | exact trivial | exact Int.natCast_nonneg _ | assumption | exact Nat.le_of_ble_eq_true (Eq.refl true) | decide))))); (conv => whnf)
        obtain rfl := some_eq hF
        refine nd (by decide) _ _ _ ?_
        (repeat (first | ((conv => whnf); (with_reducible refine And.intro ?_ ?_); (focus (first | exact Eq.refl _ | exact trivial | exact Int.natCast_nonneg _ | assumption | exact Nat.le_of_ble_eq_true (Eq.refl true) | decide))))); (conv => whnf)
        exact Exists.intro (rn []) (WS.mk (wt_cons (wd_c (WE.refl _)) wt_nil) wb_nil)
      · refine nd (by decide) _ _ _ ?_
        (conv => whnf)
        refine nd (by decide) _ _ _ ?_
        (repeat (first | ((conv => whnf); (with_reducible refine And.intro ?_ ?_); (focus (first | exact Eq.refl _ | exact trivial | exact Int.natCast_nonneg _ | assumption | exact Nat.le_of_ble_eq_true (Eq.refl true) | decide))))); (conv => whnf)
        refine AWL.weak (rn []) ?_ (ih_values_formed_l2 toArray (x_77 + 1) xs60 _ hF (pre_x_77 ++ [x59]) (by rw [hs_x_77]; simp) (by rw [hk_x_77]; simp) hlen47)
        exact (WS.mk (wt_cons wd_ptr (wt_cons (wd_c (WE.refl _)) (wt_cons (wd_c (WE.refl _)) (wt_cons (wd_c (we_i (wrap_succ hlen47 hl61))) wt_nil)))) (wb_cons rfl (wc_c (WE.refl _) (wc_c (WE.refl _) (wc_c (WE.refl _) (wc_c (WE.refl _) (wc_c (WE.refl _) (wc_c (WE.refl _) wc_nil)))))) wb_nil))
    · subst hp61
      refine nd (by decide) _ _ _ ?_
      (conv => whnf)
      refine AWP.seq ?_
      obtain ⟨r64, hr64, hF⟩ := bind_some hF
      refine nd (by decide) _ _ _ ?_
      (repeat (first | ((conv => whnf); (with_reducible refine And.intro ?_ ?_); (focus (first | exact Eq.refl _ | exact trivial | exact Int.natCast_nonneg _ | assumption | exact Nat.le_of_ble_eq_true (Eq.refl true) | decide))))); (conv => whnf)
      refine Exists.intro [] ?_
      (repeat (first | ((conv => whnf); (with_reducible refine And.intro ?_ ?_); (focus (first | exact Eq.refl _ | exact trivial | exact Int.natCast_nonneg _ | assumption | exact Nat.le_of_ble_eq_true (Eq.refl true) | decide))))); (conv => whnf)
      refine CallsX.mono (CallsX.weak (rn []) (values_constructor_ok toArray.fName _ hr64) rfl (WS.mk (wt_cons (wd_c (WE.refl _)) wt_nil) wb_nil)) ?_
      rintro d b ⟨rfl, rfl⟩
      (repeat (first | ((conv => whnf); (with_reducible refine And.intro ?_ ?_); (focus (first | exact Eq.refl _ | exact trivial | exact Int.natCast_nonneg _ | assumption | exact Nat.le_of_ble_eq_true (Eq.refl true) | decide))))); (conv => whnf)
      (repeat (first | ((conv => whnf); (with_reducible refine And.intro ?_ ?_); (focus (first | exact Eq.refl _ | exact trivial | exact Int.natCast_nonneg _ | assumption | exact Nat.le_of_ble_eq_true (Eq.refl true) | decide))))); (conv => whnf)
      obtain rfl := some_eq hF
      refine nd (by decide) _ _ _ ?_
      (repeat (first | ((conv => whnf); (with_reducible refine And.intro ?_ ?_); (focus (first | exact Eq.refl _ | exact trivial | exact Int.natCast_nonneg _ | assumption | exact Nat.le_of_ble_eq_true (Eq.refl true) | decide))))); (conv => whnf)
      exact Exists.intro (rn []) (WS.mk (wt_cons (wd_c (WE.refl _)) wt_nil) wb_nil)
theorem values_formed_ok : ∀ (toArray : TValue), ∀ r, values_formed toArray = some r → values_formed.M toArray r := values_formed_all.1
theorem values_formed_k1_ok : ∀ (toArray : TValue) (x_53 : Bool), ∀ r, values_formed_k1 toArray x_53 = some r → values_formed_k1.M toArray x_53 r := values_formed_all.2.1
theorem values_formed_l2_ok : ∀ (toArray : TValue) (x_77 : Nat) (x_77_s_ : (List TValue)), ∀ r, values_formed_l2 toArray x_77 x_77_s_ = some r → values_formed_l2.M toArray x_77 x_77_s_ r := values_formed_all.2.2
end Go.Proofs.YtafniolcakiljaaDoor

set_option linter.unusedVariables false
set_option linter.unusedSimpArgs false
set_option maxRecDepth 100000
set_option maxHeartbeats 4000000
namespace Go.Proofs.YtafniolcakiljaaDoor
open Go Go.Am
mutual
def values_size (v : TValue) : Option (Int) :=
  values_size_l1 1 v 0 v.fKids
  partial_fixpoint
def values_size_l1 (n_3 : Int) (v : TValue) (x_9 : Nat) (x_9_s_ : (List TValue)) : Option (Int) :=
  (match x_9_s_ with
  | x11 :: xs12 =>
  values_size x11 >>= fun r14 =>
  values_size_l1 (IntKind.i64.wrap (n_3 + r14)) v (x_9 + 1) xs12
  | [] =>
  some n_3)
  partial_fixpoint
end
def values_size.M (v : TValue) (r : Int) : Prop :=
  CallsX Tryd.prog 42 [.agg [.v (.int .i64 v.fOp), .v (.string v.fName), .v (.int .i64 v.fN), .sl (v.fKids.map TValue.cells), .v (.bool v.fSet.fAll), .sl (v.fSet.fList.map TExc.cells)]] [] (fun d b => d = .c none (.v (.int .i64 r)) ∧ b = [])
def values_size_l1.M (n_3 : Int) (v : TValue) (x_9 : Nat) (x_9_s_ : (List TValue)) (r : Int) : Prop :=
  ∀ pre_x_9 : List TValue, v.fKids = pre_x_9 ++ x_9_s_ → x_9 = pre_x_9.length → v.fKids.length ≤ maxLen → AWL Tryd.prog 19 (Code.sub (bodyOf Tryd.f42) [1, 1, 0, 1, 0, 0]) (Code.cont Tryd.prog 19 (bodyOf Tryd.f42) [1, 1, 0, 1, 0] (endK tab Tryd.f42.results [] (WRes (.c none (.v (.int .i64 r))) []))) ⟨[(3, .c none (.v (.int .i64 n_3))), (7, .c none (.sl (v.fKids.map TValue.cells))), (8, .c none (.v (.int .i64 ((v.fKids.length : Nat) : Int)))), (9, .c none (.v (.int .i64 ((x_9 : Nat) : Int))))], []⟩
theorem values_size_all : (∀ (v : TValue), ∀ r, values_size v = some r → values_size.M v r) ∧ (∀ (n_3 : Int) (v : TValue) (x_9 : Nat) (x_9_s_ : (List TValue)), ∀ r, values_size_l1 n_3 v x_9 x_9_s_ = some r → values_size_l1.M n_3 v x_9 x_9_s_ r) := by
  refine values_size.mutual_partial_correctness values_size.M values_size_l1.M ?_ ?_
  · intro values_size_l1' ih_values_size_l1 v r hF
    unfold values_size.M
    refine enter tabOk Tryd.func42 rfl (by decide) (Nat.le_of_ble_eq_true rfl) rfl rfl rfl ?_
    refine AWP.seq ?_
    refine nd (by decide) _ _ _ ?_
    (repeat (first | ((conv => whnf); (with_reducible refine And.intro ?_ ?_); (focus (first | exact Eq.refl _ | exact trivial | exact Int.natCast_nonneg _ | assumption | exact Nat.le_of_ble_eq_true (Eq.refl true) | decide))))); (conv => whnf)
    refine AWP.seq ?_
    refine nd (by decide) _ _ _ ?_
    (repeat (first | ((conv => whnf); (with_reducible refine And.intro ?_ ?_); (focus (first | exact Eq.refl _ | exact trivial | exact Int.natCast_nonneg _ | assumption | exact Nat.le_of_ble_eq_true (Eq.refl true) | decide))))); (conv => whnf)
    refine AWP.seq ?_
    refine AWP.seq ?_
    refine nd (by decide) _ _ _ ?_
    (repeat (first | ((conv => whnf); (with_reducible refine And.intro ?_ ?_); (focus (first | exact Eq.refl _ | exact trivial | exact Int.natCast_nonneg _ | assumption | exact Nat.le_of_ble_eq_true (Eq.refl true) | decide))))); (conv => whnf)
    intro hlen1
    (try rw [List.length_map] at hlen1)
    (try rw [List.length_map])
    (repeat (first | ((conv => whnf); (with_reducible refine And.intro ?_ ?_); (focus (first | exact Eq.refl _ | exact trivial | exact Int.natCast_nonneg _ | assumption | exact Nat.le_of_ble_eq_true (Eq.refl true) | decide))))); (conv => whnf)
    refine AWP.block ?_
    refine AWP.loop ?_
    refine AWL.weak (rn []) ?_ (ih_values_size_l1 1 v 0 v.fKids _ hF ([]) rfl rfl hlen1)
    exact (WS.mk (wt_cons (wd_c (WE.refl _)) (wt_cons (wd_c (WE.refl _)) (wt_cons (wd_c (WE.refl _)) (wt_cons (wd_c (WE.refl _)) wt_nil)))) wb_nil)
  · intro values_size' values_size_l1' ih_values_size ih_values_size_l1 n_3 v x_9 x_9_s_ r hF
    unfold values_size_l1.M
    intro pre_x_9 hs_x_9 hk_x_9 hlen1
    refine AWL.step ?_
    refine AWP.seq ?_
    refine nd (by decide) _ _ _ ?_
    (repeat (first | ((conv => whnf); (with_reducible refine And.intro ?_ ?_); (focus (first | exact Eq.refl _ | exact trivial | exact Int.natCast_nonneg _ | assumption | exact Nat.le_of_ble_eq_true (Eq.refl true) | decide))))); (conv => whnf)
    refine AWP.seq ?_
    refine nd (by decide) _ _ _ ?_
    (conv => whnf)
    refine branch_list hs_x_9 hk_x_9 (fun x11 xs12 hp13 hx13 hl13 => ?_) (fun hp13 => ?_)
    · subst hp13
      refine nd (by decide) _ _ _ ?_
      (conv => whnf)
      refine AWP.seq ?_
      refine AWP.block ?_
      refine AWP.seq ?_
      refine nd (by decide) _ _ _ ?_
      (repeat (first | ((conv => whnf); (with_reducible refine And.intro ?_ ?_); (focus (first | exact Eq.refl _ | exact trivial | exact Int.natCast_nonneg _ | assumption | exact Nat.le_of_ble_eq_true (Eq.refl true) | decide))) | ((conv => whnf); rw [map_get (TValue.cells_eq x11) hx13]))); (conv => whnf)
      (repeat (first | ((conv => whnf); (with_reducible refine And.intro ?_ ?_); (focus (first | exact Eq.refl _ | exact trivial | exact Int.natCast_nonneg _ | assumption | exact Nat.le_of_ble_eq_true (Eq.refl true) | decide))))); (conv => whnf)
      obtain ⟨r14, hr14, hF⟩ := bind_some hF
      refine nd (by decide) _ _ _ ?_
      (repeat (first | ((conv => whnf); (with_reducible refine And.intro ?_ ?_); (focus (first | exact Eq.refl _ | exact trivial | exact Int.natCast_nonneg _ | assumption | exact Nat.le_of_ble_eq_true (Eq.refl true) | decide))))); (conv => whnf)
      refine Exists.intro [] ?_
      (repeat (first | ((conv => whnf); (with_reducible refine And.intro ?_ ?_); (focus (first | exact Eq.refl _ | exact trivial | exact Int.natCast_nonneg _ | assumption | exact Nat.le_of_ble_eq_true (Eq.refl true) | decide))))); (conv => whnf)
      refine CallsX.mono (CallsX.weak (rn []) (ih_values_size x11 _ hr14) rfl (WS.mk (wt_cons (wd_agg (wl_cons (WE.refl _) (wl_cons (WE.refl _) (wl_cons (WE.refl _) (wl_cons (WE.refl _) (wl_cons (WE.refl _) (wl_cons (WE.refl _) wl_nil))))))) wt_nil) wb_nil)) ?_
      rintro d b ⟨rfl, rfl⟩
      (repeat (first | ((conv => whnf); (with_reducible refine And.intro ?_ ?_); (focus (first | exact Eq.refl _ | exact trivial | exact Int.natCast_nonneg _ | assumption | exact Nat.le_of_ble_eq_true (Eq.refl true) | decide))))); (conv => whnf)
      (repeat (first | ((conv => whnf); (with_reducible refine And.intro ?_ ?_); (focus (first | exact Eq.refl _ | exact trivial | exact Int.natCast_nonneg _ | assumption | exact Nat.le_of_ble_eq_true (Eq.refl true) | decide))))); (conv => whnf)
      refine nd (by decide) _ _ _ ?_
      (repeat (first | ((conv => whnf); (with_reducible refine And.intro ?_ ?_); (focus (first | exact Eq.refl _ | exact trivial | exact Int.natCast_nonneg _ | assumption | exact Nat.le_of_ble_eq_true (Eq.refl true) | decide))))); (conv => whnf)
      refine AWL.weak (rn []) ?_ (ih_values_size_l1 (IntKind.i64.wrap (n_3 + r14)) v (x_9 + 1) xs12 _ hF (pre_x_9 ++ [x11]) (by rw [hs_x_9]; simp) (by rw [hk_x_9]; simp) hlen1)
      exact (WS.mk (wt_cons (wd_c (WE.refl _)) (wt_cons (wd_c (WE.refl _)) (wt_cons (wd_c (WE.refl _)) (wt_cons (wd_c (we_i (wrap_succ hlen1 hl13))) wt_nil)))) wb_nil)
    · subst hp13
      refine nd (by decide) _ _ _ ?_
      (conv => whnf)
      refine AWP.seq ?_
      refine nd (by decide) _ _ _ ?_
      (repeat (first | ((conv => whnf); (with_reducible refine And.intro ?_ ?_); (focus (first | exact Eq.refl _ | exact trivial | exact Int.natCast_nonneg _ | assumption | exact Nat.le_of_ble_eq_true (Eq.refl true) | decide))))); (conv => whnf)
      obtain rfl := some_eq hF
      refine nd (by decide) _ _ _ ?_
      (repeat (first | ((conv => whnf); (with_reducible refine And.intro ?_ ?_); (focus (first | exact Eq.refl _ | exact trivial | exact Int.natCast_nonneg _ | assumption | exact Nat.le_of_ble_eq_true (Eq.refl true) | decide))))); (conv => whnf)
      exact Exists.intro (rn []) (WS.mk (wt_cons (wd_c (WE.refl _)) wt_nil) wb_nil)
theorem values_size_ok : ∀ (v : TValue), ∀ r, values_size v = some r → values_size.M v r := values_size_all.1
theorem values_size_l1_ok : ∀ (n_3 : Int) (v : TValue) (x_9 : Nat) (x_9_s_ : (List TValue)), ∀ r, values_size_l1 n_3 v x_9 x_9_s_ = some r → values_size_l1.M n_3 v x_9 x_9_s_ r := values_size_all.2
end Go.Proofs.YtafniolcakiljaaDoor

set_option linter.unusedVariables false
set_option linter.unusedSimpArgs false
set_option maxRecDepth 100000
set_option maxHeartbeats 4000000
namespace Go.Proofs.YtafniolcakiljaaDoor
open Go Go.Am
def values_Check (v : TValue) : Option (Int) :=
  values_depth v >>= fun r3 =>
  if (decide (r3 > 1000)) = true then
  some 4
  else
  values_size v >>= fun r7 =>
  if (decide (r7 > 60000)) = true then
  some 3
  else
  values_formed v >>= fun r9 =>
  if (!r9) = true then
  some 1
  else
  some 0
def values_Check.M (v : TValue) (r : Int) : Prop :=
  CallsX Tryd.prog 15 [.agg [.v (.int .i64 v.fOp), .v (.string v.fName), .v (.int .i64 v.fN), .sl (v.fKids.map TValue.cells), .v (.bool v.fSet.fAll), .sl (v.fSet.fList.map TExc.cells)]] [] (fun d b => d = .c none (.v (.int .i64 r)) ∧ b = [])
theorem values_Check_ok (v : TValue) (r : Int) (hF : values_Check v = some r) : values_Check.M v r := by
  unfold values_Check at hF
  unfold values_Check.M
  refine enter tabOk Tryd.func15 rfl (by decide) (Nat.le_of_ble_eq_true rfl) rfl rfl rfl ?_
  refine AWP.seq ?_
  refine nd (by decide) _ _ _ ?_
  (repeat (first | ((conv => whnf); (with_reducible refine And.intro ?_ ?_); (focus (first | exact Eq.refl _ | exact trivial | exact Int.natCast_nonneg _ | assumption | exact Nat.le_of_ble_eq_true (Eq.refl true) | decide))))); (conv => whnf)
  refine AWP.seq ?_
  refine AWP.seq ?_
  obtain ⟨r3, hr3, hF⟩ := bind_some hF
  refine nd (by decide) _ _ _ ?_
  (repeat (first | ((conv => whnf); (with_reducible refine And.intro ?_ ?_); (focus (first | exact Eq.refl _ | exact trivial | exact Int.natCast_nonneg _ | assumption | exact Nat.le_of_ble_eq_true (Eq.refl true) | decide))))); (conv => whnf)
  refine Exists.intro [] ?_
  (repeat (first | ((conv => whnf); (with_reducible refine And.intro ?_ ?_); (focus (first | exact Eq.refl _ | exact trivial | exact Int.natCast_nonneg _ | assumption | exact Nat.le_of_ble_eq_true (Eq.refl true) | decide))))); (conv => whnf)
  refine CallsX.mono (CallsX.weak (rn []) (values_depth_ok v _ hr3) rfl (WS.mk (wt_cons (wd_agg (wl_cons (WE.refl _) (wl_cons (WE.refl _) (wl_cons (WE.refl _) (wl_cons (WE.refl _) (wl_cons (WE.refl _) (wl_cons (WE.refl _) wl_nil))))))) wt_nil) wb_nil)) ?_
  rintro d b ⟨rfl, rfl⟩
  (repeat (first | ((conv => whnf); (with_reducible refine And.intro ?_ ?_); (focus (first | exact Eq.refl _ | exact trivial | exact Int.natCast_nonneg _ | assumption | exact Nat.le_of_ble_eq_true (Eq.refl true) | decide))))); (conv => whnf)
  (repeat (first | ((conv => whnf); (with_reducible refine And.intro ?_ ?_); (focus (first | exact Eq.refl _ | exact trivial | exact Int.natCast_nonneg _ | assumption | exact Nat.le_of_ble_eq_true (Eq.refl true) | decide))))); (conv => whnf)
  refine nd (by decide) _ _ _ ?_
  (conv => whnf)
  refine branch_hF hF (fun hc4 hF => ?_) (fun hc4 hF => ?_)
  · refine AWP.seq ?_
    refine nd (by decide) _ _ _ ?_
    (repeat (first | ((conv => whnf); (with_reducible refine And.intro ?_ ?_); (focus (first | exact Eq.refl _ | exact trivial | exact Int.natCast_nonneg _ | assumption | exact Nat.le_of_ble_eq_true (Eq.refl true) | decide))))); (conv => whnf)
    obtain rfl := some_eq hF
    refine nd (by decide) _ _ _ ?_
    (repeat (first | ((conv => whnf); (with_reducible refine And.intro ?_ ?_); (focus (first | exact Eq.refl _ | exact trivial | exact Int.natCast_nonneg _ | assumption | exact Nat.le_of_ble_eq_true (Eq.refl true) | decide))))); (conv => whnf)
    exact Exists.intro (rn []) (WS.mk (wt_cons (wd_c (WE.refl _)) wt_nil) wb_nil)
  · refine nd (by decide) _ _ _ ?_
    (conv => whnf)
    refine AWP.seq ?_
    refine AWP.seq ?_
    obtain ⟨r7, hr7, hF⟩ := bind_some hF
    refine nd (by decide) _ _ _ ?_
    (repeat (first | ((conv => whnf); (with_reducible refine And.intro ?_ ?_); (focus (first | exact Eq.refl _ | exact trivial | exact Int.natCast_nonneg _ | assumption | exact Nat.le_of_ble_eq_true (Eq.refl true) | decide))))); (conv => whnf)
    refine Exists.intro [] ?_
    (repeat (first | ((conv => whnf); (with_reducible refine And.intro ?_ ?_); (focus (first | exact Eq.refl _ | exact trivial | exact Int.natCast_nonneg _ | assumption | exact Nat.le_of_ble_eq_true (Eq.refl true) | decide))))); (conv => whnf)
    refine CallsX.mono (CallsX.weak (rn []) (values_size_ok v _ hr7) rfl (WS.mk (wt_cons (wd_agg (wl_cons (WE.refl _) (wl_cons (WE.refl _) (wl_cons (WE.refl _) (wl_cons (WE.refl _) (wl_cons (WE.refl _) (wl_cons (WE.refl _) wl_nil))))))) wt_nil) wb_nil)) ?_
    rintro d b ⟨rfl, rfl⟩
    (repeat (first | ((conv => whnf); (with_reducible refine And.intro ?_ ?_); (focus (first | exact Eq.refl _ | exact trivial | exact Int.natCast_nonneg _ | assumption | exact Nat.le_of_ble_eq_true (Eq.refl true) | decide))))); (conv => whnf)
    (repeat (first | ((conv => whnf); (with_reducible refine And.intro ?_ ?_); (focus (first | exact Eq.refl _ | exact trivial | exact Int.natCast_nonneg _ | assumption | exact Nat.le_of_ble_eq_true (Eq.refl true) | decide))))); (conv => whnf)
    refine nd (by decide) _ _ _ ?_
    (conv => whnf)
    refine branch_hF hF (fun hc8 hF => ?_) (fun hc8 hF => ?_)
    · refine AWP.seq ?_
      refine nd (by decide) _ _ _ ?_
      (repeat (first | ((conv => whnf); (with_reducible refine And.intro ?_ ?_); (focus (first | exact Eq.refl _ | exact trivial | exact Int.natCast_nonneg _ | assumption | exact Nat.le_of_ble_eq_true (Eq.refl true) | decide))))); (conv => whnf)
      obtain rfl := some_eq hF
      refine nd (by decide) _ _ _ ?_
      (repeat (first | ((conv => whnf); (with_reducible refine And.intro ?_ ?_); (focus (first | exact Eq.refl _ | exact trivial | exact Int.natCast_nonneg _ | assumption | exact Nat.le_of_ble_eq_true (Eq.refl true) | decide))))); (conv => whnf)
      exact Exists.intro (rn []) (WS.mk (wt_cons (wd_c (WE.refl _)) wt_nil) wb_nil)
    · refine nd (by decide) _ _ _ ?_
      (conv => whnf)
      refine AWP.seq ?_
      refine AWP.seq ?_
      obtain ⟨r9, hr9, hF⟩ := bind_some hF
      refine nd (by decide) _ _ _ ?_
      (repeat (first | ((conv => whnf); (with_reducible refine And.intro ?_ ?_); (focus (first | exact Eq.refl _ | exact trivial | exact Int.natCast_nonneg _ | assumption | exact Nat.le_of_ble_eq_true (Eq.refl true) | decide))))); (conv => whnf)
      refine Exists.intro [] ?_
      (repeat (first | ((conv => whnf); (with_reducible refine And.intro ?_ ?_); (focus (first | exact Eq.refl _ | exact trivial | exact Int.natCast_nonneg _ | assumption | exact Nat.le_of_ble_eq_true (Eq.refl true) | decide))))); (conv => whnf)
      refine CallsX.mono (CallsX.weak (rn []) (values_formed_ok v _ hr9) rfl (WS.mk (wt_cons (wd_agg (wl_cons (WE.refl _) (wl_cons (WE.refl _) (wl_cons (WE.refl _) (wl_cons (WE.refl _) (wl_cons (WE.refl _) (wl_cons (WE.refl _) wl_nil))))))) wt_nil) wb_nil)) ?_
      rintro d b ⟨rfl, rfl⟩
      (repeat (first | ((conv => whnf); (with_reducible refine And.intro ?_ ?_); (focus (first | exact Eq.refl _ | exact trivial | exact Int.natCast_nonneg _ | assumption | exact Nat.le_of_ble_eq_true (Eq.refl true) | decide))))); (conv => whnf)
      (repeat (first | ((conv => whnf); (with_reducible refine And.intro ?_ ?_); (focus (first | exact Eq.refl _ | exact trivial | exact Int.natCast_nonneg _ | assumption | exact Nat.le_of_ble_eq_true (Eq.refl true) | decide))))); (conv => whnf)
      refine nd (by decide) _ _ _ ?_
      (conv => whnf)
      refine branch_hF hF (fun hc10 hF => ?_) (fun hc10 hF => ?_)
      · refine AWP.seq ?_
        refine nd (by decide) _ _ _ ?_
        (repeat (first | ((conv => whnf); (with_reducible refine And.intro ?_ ?_); (focus (first | exact Eq.refl _ | exact trivial | exact Int.natCast_nonneg _ | assumption | exact Nat.le_of_ble_eq_true (Eq.refl true) | decide))))); (conv => whnf)
        obtain rfl := some_eq hF
        refine nd (by decide) _ _ _ ?_
        (repeat (first | ((conv => whnf); (with_reducible refine And.intro ?_ ?_); (focus (first | exact Eq.refl _ | exact trivial | exact Int.natCast_nonneg _ | assumption | exact Nat.le_of_ble_eq_true (Eq.refl true) | decide))))); (conv => whnf)
        exact Exists.intro (rn []) (WS.mk (wt_cons (wd_c (WE.refl _)) wt_nil) wb_nil)
      · refine nd (by decide) _ _ _ ?_
        (conv => whnf)
        refine AWP.seq ?_
        refine nd (by decide) _ _ _ ?_
        (repeat (first | ((conv => whnf); (with_reducible refine And.intro ?_ ?_); (focus (first | exact Eq.refl _ | exact trivial | exact Int.natCast_nonneg _ | assumption | exact Nat.le_of_ble_eq_true (Eq.refl true) | decide))))); (conv => whnf)
        obtain rfl := some_eq hF
        refine nd (by decide) _ _ _ ?_
        (repeat (first | ((conv => whnf); (with_reducible refine And.intro ?_ ?_); (focus (first | exact Eq.refl _ | exact trivial | exact Int.natCast_nonneg _ | assumption | exact Nat.le_of_ble_eq_true (Eq.refl true) | decide))))); (conv => whnf)
        exact Exists.intro (rn []) (WS.mk (wt_cons (wd_c (WE.refl _)) wt_nil) wb_nil)
end Go.Proofs.YtafniolcakiljaaDoor

set_option linter.unusedVariables false
set_option linter.unusedSimpArgs false
set_option maxRecDepth 100000
set_option maxHeartbeats 4000000
namespace Go.Proofs.YtafniolcakiljaaDoor
open Go Go.Am
def slices_Equal_Exc_l1 (s1_ : (List TExc)) (s2_ : (List TExc)) (x_13 : Nat) (x_13_s_ : (List TExc)) : Option (Bool) :=
  (match x_13_s_ with
  | x19 :: xs20 =>
  (s2_[x_13]?) >>= fun x22 =>
  if (!((x19.fCon.toList == x22.fCon.toList) && ((x19.fN == x22.fN) && true))) = true then
  some false
  else
  slices_Equal_Exc_l1 s1_ s2_ (x_13 + 1) xs20
  | [] =>
  some true)
  partial_fixpoint
def slices_Equal_Exc_l1.M (s1_ : (List TExc)) (s2_ : (List TExc)) (x_13 : Nat) (x_13_s_ : (List TExc)) (r : Bool) : Prop :=
  ∀ pre_x_13 : List TExc, s1_ = pre_x_13 ++ x_13_s_ → x_13 = pre_x_13.length → s1_.length ≤ maxLen → s2_.length ≤ maxLen → AWL Tryd.prog 26 (Code.sub (bodyOf Tryd.f47) [1, 1, 0, 1, 0, 0]) (Code.cont Tryd.prog 26 (bodyOf Tryd.f47) [1, 1, 0, 1, 0] (endK tab Tryd.f47.results [] (WRes (.c none (.v (.bool r))) []))) ⟨[(0, .c none (.sl (s1_.map TExc.cells))), (1, .c none (.sl (s2_.map TExc.cells))), (12, .c none (.v (.int .i64 ((s1_.length : Nat) : Int)))), (13, .c none (.v (.int .i64 ((x_13 : Nat) : Int))))], []⟩
theorem slices_Equal_Exc_l1_ok (s1_ : (List TExc)) (s2_ : (List TExc)) (x_13 : Nat) (x_13_s_ : (List TExc)) : ∀ r, slices_Equal_Exc_l1 s1_ s2_ x_13 x_13_s_ = some r → slices_Equal_Exc_l1.M s1_ s2_ x_13 x_13_s_ r := by
  refine slices_Equal_Exc_l1.partial_correctness s1_ s2_ (fun x_13 x_13_s_ r => slices_Equal_Exc_l1.M s1_ s2_ x_13 x_13_s_ r) ?_ x_13 x_13_s_
  intro slices_Equal_Exc_l1' ih0_slices_Equal_Exc_l1 x_13 x_13_s_ r hF
  have ih_slices_Equal_Exc_l1 := fun (_s1_ : (List TExc)) (_s2_ : (List TExc)) (x_13 : Nat) (x_13_s_ : (List TExc)) => ih0_slices_Equal_Exc_l1 x_13 x_13_s_
  clear ih0_slices_Equal_Exc_l1
  unfold slices_Equal_Exc_l1.M
  intro pre_x_13 hs_x_13 hk_x_13 hlen7 hlen5
  refine AWL.step ?_
  refine AWP.seq ?_
  refine nd (by decide) _ _ _ ?_
  (repeat (first | ((conv => whnf); (with_reducible refine And.intro ?_ ?_); (focus (first | exact Eq.refl _ | exact trivial | exact Int.natCast_nonneg _ | assumption | exact Nat.le_of_ble_eq_true (Eq.refl true) | decide))))); (conv => whnf)
  refine AWP.seq ?_
  refine nd (by decide) _ _ _ ?_
  (conv => whnf)
  refine branch_list hs_x_13 hk_x_13 (fun x19 xs20 hp21 hx21 hl21 => ?_) (fun hp21 => ?_)
  · subst hp21
    refine nd (by decide) _ _ _ ?_
    (conv => whnf)
    refine AWP.seq ?_
    refine AWP.block ?_
    refine AWP.seq ?_
    refine nd (by decide) _ _ _ ?_
    (repeat (first | ((conv => whnf); (with_reducible refine And.intro ?_ ?_); (focus (first | exact Eq.refl _ | exact trivial | exact Int.natCast_nonneg _ | assumption | exact Nat.le_of_ble_eq_true (Eq.refl true) | decide))))); (conv => whnf)
    refine AWP.seq ?_
    obtain ⟨x22, hx22, hF⟩ := bind_some hF
    refine nd (by decide) _ _ _ ?_
    refine Exists.intro 8 (Exists.intro [[16, 17, 18, 19, 20, 21, 22, 23], [16, 17, 18, 19, 20, 21, 22, 23], [18, 19, 20, 21, 22, 23], [19, 20, 21, 22, 23], [16, 17, 18, 19, 20, 21, 22, 23], [16, 17, 18, 19, 20, 21, 22, 23], [16, 17, 18, 19, 22, 23], [16, 17, 18, 19, 23]] (Exists.intro [16, 17, 18, 19, 20, 21, 22, 23] (And.intro (by decide +kernel) ?_)))
    ((repeat (first | ((conv => whnf); (with_reducible refine And.intro ?_ ?_); (focus (first | exact Eq.refl _ | exact trivial | exact Int.natCast_nonneg _ | assumption | exact Nat.le_of_ble_eq_true (Eq.refl true) | decide))))); (conv => whnf); apply Exists.intro; apply Exists.intro; apply And.intro; (focus (((repeat (first | ((conv => whnf); (with_reducible refine And.intro ?_ ?_); (focus (first | exact Eq.refl _ | exact trivial | exact Int.natCast_nonneg _ | assumption | exact Nat.le_of_ble_eq_true (Eq.refl true) | decide))))); (conv => whnf)) <;> (exact rfl))); apply And.intro; (focus exact rfl); (conv => whnf))
    ((repeat (first | ((conv => whnf); (with_reducible refine And.intro ?_ ?_); (focus (first | exact Eq.refl _ | exact trivial | exact Int.natCast_nonneg _ | assumption | exact Nat.le_of_ble_eq_true (Eq.refl true) | decide))))); (conv => whnf); apply Exists.intro; apply Exists.intro; apply And.intro; (focus (((repeat (first | ((conv => whnf); (with_reducible refine And.intro ?_ ?_); (focus (first | exact Eq.refl _ | exact trivial | exact Int.natCast_nonneg _ | assumption | exact Nat.le_of_ble_eq_true (Eq.refl true) | decide))))); (conv => whnf)) <;> (exact rfl))); apply And.intro; (focus exact rfl); (conv => whnf))
    ((repeat (first | ((conv => whnf); (with_reducible refine And.intro ?_ ?_); (focus (first | exact Eq.refl _ | exact trivial | exact Int.natCast_nonneg _ | assumption | exact Nat.le_of_ble_eq_true (Eq.refl true) | decide))))); (conv => whnf); apply Exists.intro; apply Exists.intro; apply And.intro; (focus (((repeat (first | ((conv => whnf); (with_reducible refine And.intro ?_ ?_); (focus (first | exact Eq.refl _ | exact trivial | exact Int.natCast_nonneg _ | assumption | exact Nat.le_of_ble_eq_true (Eq.refl true) | decide))))); (conv => whnf)) <;> (rw [map_get (TExc.cells_eq x19) hx21]) <;> ((repeat (first | ((conv => whnf); (with_reducible refine And.intro ?_ ?_); (focus (first | exact Eq.refl _ | exact trivial | exact Int.natCast_nonneg _ | assumption | exact Nat.le_of_ble_eq_true (Eq.refl true) | decide))))); (conv => whnf)) <;> (exact rfl))); apply And.intro; (focus exact rfl); (conv => whnf))
    ((repeat (first | ((conv => whnf); (with_reducible refine And.intro ?_ ?_); (focus (first | exact Eq.refl _ | exact trivial | exact Int.natCast_nonneg _ | assumption | exact Nat.le_of_ble_eq_true (Eq.refl true) | decide))))); (conv => whnf); apply Exists.intro; apply Exists.intro; apply And.intro; (focus (((repeat (first | ((conv => whnf); (with_reducible refine And.intro ?_ ?_); (focus (first | exact Eq.refl _ | exact trivial | exact Int.natCast_nonneg _ | assumption | exact Nat.le_of_ble_eq_true (Eq.refl true) | decide))))); (conv => whnf)) <;> (exact rfl))); apply And.intro; (focus exact rfl); (conv => whnf))
    ((repeat (first | ((conv => whnf); (with_reducible refine And.intro ?_ ?_); (focus (first | exact Eq.refl _ | exact trivial | exact Int.natCast_nonneg _ | assumption | exact Nat.le_of_ble_eq_true (Eq.refl true) | decide))))); (conv => whnf); apply Exists.intro; apply Exists.intro; apply And.intro; (focus (((repeat (first | ((conv => whnf); (with_reducible refine And.intro ?_ ?_); (focus (first | exact Eq.refl _ | exact trivial | exact Int.natCast_nonneg _ | assumption | exact Nat.le_of_ble_eq_true (Eq.refl true) | decide))))); (conv => whnf)) <;> (exact rfl))); apply And.intro; (focus exact rfl); (conv => whnf))
    ((repeat (first | ((conv => whnf); (with_reducible refine And.intro ?_ ?_); (focus (first | exact Eq.refl _ | exact trivial | exact Int.natCast_nonneg _ | assumption | exact Nat.le_of_ble_eq_true (Eq.refl true) | decide))))); (conv => whnf); apply Exists.intro; apply Exists.intro; apply And.intro; (focus (((repeat (first | ((conv => whnf); (with_reducible refine And.intro ?_ ?_); (focus (first | exact Eq.refl _ | exact trivial | exact Int.natCast_nonneg _ | assumption | exact Nat.le_of_ble_eq_true (Eq.refl true) | decide))))); (conv => whnf)) <;> (exact rfl))); apply And.intro; (focus exact rfl); (conv => whnf))
    ((repeat (first | ((conv => whnf); (with_reducible refine And.intro ?_ ?_); (focus (first | exact Eq.refl _ | exact trivial | exact Int.natCast_nonneg _ | assumption | exact Nat.le_of_ble_eq_true (Eq.refl true) | decide))))); (conv => whnf); apply Exists.intro; apply Exists.intro; apply And.intro; (focus (((repeat (first | ((conv => whnf); (with_reducible refine And.intro ?_ ?_); (focus (first | exact Eq.refl _ | exact trivial | exact Int.natCast_nonneg _ | assumption | exact Nat.le_of_ble_eq_true (Eq.refl true) | decide))))); (conv => whnf)) <;> (rw [map_get (TExc.cells_eq x22) hx22]) <;> ((repeat (first | ((conv => whnf); (with_reducible refine And.intro ?_ ?_); (focus (first | exact Eq.refl _ | exact trivial | exact Int.natCast_nonneg _ | assumption | exact Nat.le_of_ble_eq_true (Eq.refl true) | decide))))); (conv => whnf)) <;> (exact rfl))); apply And.intro; (focus exact rfl); (conv => whnf))
    ((repeat (first | ((conv => whnf); (with_reducible refine And.intro ?_ ?_); (focus (first | exact Eq.refl _ | exact trivial | exact Int.natCast_nonneg _ | assumption | exact Nat.le_of_ble_eq_true (Eq.refl true) | decide))))); (conv => whnf); apply Exists.intro; apply Exists.intro; apply And.intro; (focus (((repeat (first | ((conv => whnf); (with_reducible refine And.intro ?_ ?_); (focus (first | exact Eq.refl _ | exact trivial | exact Int.natCast_nonneg _ | assumption | exact Nat.le_of_ble_eq_true (Eq.refl true) | decide))))); (conv => whnf)) <;> (exact rfl))); apply And.intro; (focus exact rfl); (conv => whnf))
    (repeat (first | ((conv => whnf); (with_reducible refine And.intro ?_ ?_); (focus (first | exact Eq.refl _ | exact trivial | exact Int.natCast_nonneg _ | assumption | exact Nat.le_of_ble_eq_true (Eq.refl true) | decide))))); (conv => whnf)
    refine nd (by decide) _ _ _ ?_
    (conv => whnf)
    refine branch_hF hF (fun hc23 hF => ?_) (fun hc23 hF => ?_)
    · refine AWP.seq ?_
      refine nd (by decide) _ _ _ ?_
      (repeat (first | ((conv => whnf); (with_reducible refine And.intro ?_ ?_); (focus (first | exact Eq.refl _ | exact trivial | exact Int.natCast_nonneg _ | assumption | exact Nat.le_of_ble_eq_true (Eq.refl true) | decide))))); (conv => whnf)
      obtain rfl := some_eq hF
      refine nd (by decide) _ _ _ ?_
      (repeat (first | ((conv => whnf); (with_reducible refine And.intro ?_ ?_); (focus (first | exact Eq.refl _ | exact trivial | exact Int.natCast_nonneg _ | assumption | exact Nat.le_of_ble_eq_true (Eq.refl true) | decide))))); (conv => whnf)
      exact Exists.intro (rn []) (WS.mk (wt_cons (wd_c (WE.refl _)) wt_nil) wb_nil)
    · refine nd (by decide) _ _ _ ?_
      (conv => whnf)
      refine nd (by decide) _ _ _ ?_
      (repeat (first | ((conv => whnf); (with_reducible refine And.intro ?_ ?_); (focus (first | exact Eq.refl _ | exact trivial | exact Int.natCast_nonneg _ | assumption | exact Nat.le_of_ble_eq_true (Eq.refl true) | decide))))); (conv => whnf)
      refine AWL.weak (rn []) ?_ (ih_slices_Equal_Exc_l1 s1_ s2_ (x_13 + 1) xs20 _ hF (pre_x_13 ++ [x19]) (by rw [hs_x_13]; simp) (by rw [hk_x_13]; simp) hlen7 hlen5)
      exact (WS.mk (wt_cons (wd_c (WE.refl _)) (wt_cons (wd_c (WE.refl _)) (wt_cons (wd_c (WE.refl _)) (wt_cons (wd_c (we_i (wrap_succ hlen7 hl21))) wt_nil)))) wb_nil)
  · subst hp21
    refine nd (by decide) _ _ _ ?_
    (conv => whnf)
    refine AWP.seq ?_
    refine nd (by decide) _ _ _ ?_
    (repeat (first | ((conv => whnf); (with_reducible refine And.intro ?_ ?_); (focus (first | exact Eq.refl _ | exact trivial | exact Int.natCast_nonneg _ | assumption | exact Nat.le_of_ble_eq_true (Eq.refl true) | decide))))); (conv => whnf)
    obtain rfl := some_eq hF
    refine nd (by decide) _ _ _ ?_
    (repeat (first | ((conv => whnf); (with_reducible refine And.intro ?_ ?_); (focus (first | exact Eq.refl _ | exact trivial | exact Int.natCast_nonneg _ | assumption | exact Nat.le_of_ble_eq_true (Eq.refl true) | decide))))); (conv => whnf)
    exact Exists.intro (rn []) (WS.mk (wt_cons (wd_c (WE.refl _)) wt_nil) wb_nil)
end Go.Proofs.YtafniolcakiljaaDoor

set_option linter.unusedVariables false
set_option linter.unusedSimpArgs false
set_option maxRecDepth 100000
set_option maxHeartbeats 4000000
namespace Go.Proofs.YtafniolcakiljaaDoor
open Go Go.Am
def slices_Equal_Exc (s1_ : (List TExc)) (s2_ : (List TExc)) : Option (Bool) :=
  if (((s1_.length : Nat) : Int) != ((s2_.length : Nat) : Int)) = true then
  some false
  else
  slices_Equal_Exc_l1 s1_ s2_ 0 s1_
def slices_Equal_Exc.M (s1_ : (List TExc)) (s2_ : (List TExc)) (r : Bool) : Prop :=
  CallsX Tryd.prog 47 [.c none (.sl (s1_.map TExc.cells)), .c none (.sl (s2_.map TExc.cells))] [] (fun d b => d = .c none (.v (.bool r)) ∧ b = [])
theorem slices_Equal_Exc_ok (s1_ : (List TExc)) (s2_ : (List TExc)) (r : Bool) (hF : slices_Equal_Exc s1_ s2_ = some r) : slices_Equal_Exc.M s1_ s2_ r := by
  unfold slices_Equal_Exc at hF
  unfold slices_Equal_Exc.M
  refine enter tabOk Tryd.func47 rfl (by decide) (Nat.le_of_ble_eq_true rfl) rfl rfl rfl ?_
  refine AWP.seq ?_
  refine nd (by decide) _ _ _ ?_
  (repeat (first | ((conv => whnf); (with_reducible refine And.intro ?_ ?_); (focus (first | exact Eq.refl _ | exact trivial | exact Int.natCast_nonneg _ | assumption | exact Nat.le_of_ble_eq_true (Eq.refl true) | decide))))); (conv => whnf)
  refine AWP.seq ?_
  refine AWP.seq ?_
  refine nd (by decide) _ _ _ ?_
  (repeat (first | ((conv => whnf); (with_reducible refine And.intro ?_ ?_); (focus (first | exact Eq.refl _ | exact trivial | exact Int.natCast_nonneg _ | assumption | exact Nat.le_of_ble_eq_true (Eq.refl true) | decide))))); (conv => whnf)
  intro hlen4
  (try rw [List.length_map] at hlen4)
  (try rw [List.length_map])
  (repeat (first | ((conv => whnf); (with_reducible refine And.intro ?_ ?_); (focus (first | exact Eq.refl _ | exact trivial | exact Int.natCast_nonneg _ | assumption | exact Nat.le_of_ble_eq_true (Eq.refl true) | decide))))); (conv => whnf)
  intro hlen5
  (try rw [List.length_map] at hlen5)
  (try rw [List.length_map])
  (repeat (first | ((conv => whnf); (with_reducible refine And.intro ?_ ?_); (focus (first | exact Eq.refl _ | exact trivial | exact Int.natCast_nonneg _ | assumption | exact Nat.le_of_ble_eq_true (Eq.refl true) | decide))))); (conv => whnf)
  refine nd (by decide) _ _ _ ?_
  (conv => whnf)
  refine branch_hF hF (fun hc6 hF => ?_) (fun hc6 hF => ?_)
  · refine AWP.seq ?_
    refine nd (by decide) _ _ _ ?_
    (repeat (first | ((conv => whnf); (with_reducible refine And.intro ?_ ?_); (focus (first | exact Eq.refl _ | exact trivial | exact Int.natCast_nonneg _ | assumption | exact Nat.le_of_ble_eq_true (Eq.refl true) | decide))))); (conv => whnf)
    obtain rfl := some_eq hF
    refine nd (by decide) _ _ _ ?_
    (repeat (first | ((conv => whnf); (with_reducible refine And.intro ?_ ?_); (focus (first | exact Eq.refl _ | exact trivial | exact Int.natCast_nonneg _ | assumption | exact Nat.le_of_ble_eq_true (Eq.refl true) | decide))))); (conv => whnf)
    exact Exists.intro (rn []) (WS.mk (wt_cons (wd_c (WE.refl _)) wt_nil) wb_nil)
  · refine nd (by decide) _ _ _ ?_
    (conv => whnf)
    refine AWP.seq ?_
    refine AWP.seq ?_
    refine nd (by decide) _ _ _ ?_
    (repeat (first | ((conv => whnf); (with_reducible refine And.intro ?_ ?_); (focus (first | exact Eq.refl _ | exact trivial | exact Int.natCast_nonneg _ | assumption | exact Nat.le_of_ble_eq_true (Eq.refl true) | decide))))); (conv => whnf)
    intro hlen7
    (try rw [List.length_map] at hlen7)
    (try rw [List.length_map])
    (repeat (first | ((conv => whnf); (with_reducible refine And.intro ?_ ?_); (focus (first | exact Eq.refl _ | exact trivial | exact Int.natCast_nonneg _ | assumption | exact Nat.le_of_ble_eq_true (Eq.refl true) | decide))))); (conv => whnf)
    refine AWP.block ?_
    refine AWP.loop ?_
    refine AWL.weak (rn []) ?_ (slices_Equal_Exc_l1_ok s1_ s2_ 0 s1_ _ hF ([]) rfl rfl hlen7 hlen5)
    exact (WS.mk (wt_cons (wd_c (WE.refl _)) (wt_cons (wd_c (WE.refl _)) (wt_cons (wd_c (WE.refl _)) (wt_cons (wd_c (WE.refl _)) wt_nil)))) wb_nil)
end Go.Proofs.YtafniolcakiljaaDoor

set_option linter.unusedVariables false
set_option linter.unusedSimpArgs false
set_option maxRecDepth 100000
set_option maxHeartbeats 4000000
namespace Go.Proofs.YtafniolcakiljaaDoor
open Go Go.Am
mutual
def values_Same (a : TValue) (b : TValue) : Option (Bool) :=
  (if ((((a.fOp == b.fOp) && (a.fName.toList == b.fName.toList)) && (a.fN == b.fN)) && (a.fSet.fAll == b.fSet.fAll)) = true then slices_Equal_Exc a.fSet.fList b.fSet.fList >>= fun r1 =>
  some r1 else some false) >>= fun c2 =>
  (if c2 = true then slices_EqualFunc_Value_values_Same a.fKids b.fKids >>= fun r3 =>
  some r3 else some false) >>= fun c4 =>
  some c4
  partial_fixpoint
def slices_EqualFunc_Value_values_Same (s1_ : (List TValue)) (s2_ : (List TValue)) : Option (Bool) :=
  if (((s1_.length : Nat) : Int) != ((s2_.length : Nat) : Int)) = true then
  some false
  else
  slices_EqualFunc_Value_values_Same_l1 s2_ s1_ 0 s1_
  partial_fixpoint
def slices_EqualFunc_Value_values_Same_l1 (s2_ : (List TValue)) (s1_ : (List TValue)) (x_17 : Nat) (x_17_s_ : (List TValue)) : Option (Bool) :=
  (match x_17_s_ with
  | x21 :: xs22 =>
  (s2_[x_17]?) >>= fun x24 =>
  values_Same x21 x24 >>= fun r25 =>
  if (!r25) = true then
  some false
  else
  slices_EqualFunc_Value_values_Same_l1 s2_ s1_ (x_17 + 1) xs22
  | [] =>
  some true)
  partial_fixpoint
end
def values_Same.M (a : TValue) (b : TValue) (r : Bool) : Prop :=
  CallsX Tryd.prog 22 [.agg [.v (.int .i64 a.fOp), .v (.string a.fName), .v (.int .i64 a.fN), .sl (a.fKids.map TValue.cells), .v (.bool a.fSet.fAll), .sl (a.fSet.fList.map TExc.cells)], .agg [.v (.int .i64 b.fOp), .v (.string b.fName), .v (.int .i64 b.fN), .sl (b.fKids.map TValue.cells), .v (.bool b.fSet.fAll), .sl (b.fSet.fList.map TExc.cells)]] [] (fun d b => d = .c none (.v (.bool r)) ∧ b = [])
def slices_EqualFunc_Value_values_Same.M (s1_ : (List TValue)) (s2_ : (List TValue)) (r : Bool) : Prop :=
  CallsX Tryd.prog 40 [.c none (.sl (s1_.map TValue.cells)), .c none (.sl (s2_.map TValue.cells)), .c none (.v (.func (.func 22) #[] #[]))] [] (fun d b => d = .c none (.v (.bool r)) ∧ b = [])
def slices_EqualFunc_Value_values_Same_l1.M (s2_ : (List TValue)) (s1_ : (List TValue)) (x_17 : Nat) (x_17_s_ : (List TValue)) (r : Bool) : Prop :=
  ∀ pre_x_17 : List TValue, s1_ = pre_x_17 ++ x_17_s_ → x_17 = pre_x_17.length → s1_.length ≤ maxLen → s2_.length ≤ maxLen → AWL Tryd.prog 32 (Code.sub (bodyOf Tryd.f40) [1, 1, 0, 1, 0, 0]) (Code.cont Tryd.prog 32 (bodyOf Tryd.f40) [1, 1, 0, 1, 0] (endK tab Tryd.f40.results [] (WRes (.c none (.v (.bool r))) []))) ⟨[(1, .c none (.sl (s2_.map TValue.cells))), (2, .c none (.v (.func (.func 22) #[] #[]))), (15, .c none (.sl (s1_.map TValue.cells))), (16, .c none (.v (.int .i64 ((s1_.length : Nat) : Int)))), (17, .c none (.v (.int .i64 ((x_17 : Nat) : Int))))], []⟩
theorem values_Same_all : (∀ (a : TValue) (b : TValue), ∀ r, values_Same a b = some r → values_Same.M a b r) ∧ (∀ (s1_ : (List TValue)) (s2_ : (List TValue)), ∀ r, slices_EqualFunc_Value_values_Same s1_ s2_ = some r → slices_EqualFunc_Value_values_Same.M s1_ s2_ r) ∧ (∀ (s2_ : (List TValue)) (s1_ : (List TValue)) (x_17 : Nat) (x_17_s_ : (List TValue)), ∀ r, slices_EqualFunc_Value_values_Same_l1 s2_ s1_ x_17 x_17_s_ = some r → slices_EqualFunc_Value_values_Same_l1.M s2_ s1_ x_17 x_17_s_ r) := by
  refine values_Same.mutual_partial_correctness values_Same.M slices_EqualFunc_Value_values_Same.M slices_EqualFunc_Value_values_Same_l1.M ?_ ?_ ?_
  · intro slices_EqualFunc_Value_values_Same' ih_slices_EqualFunc_Value_values_Same a b r hF
    unfold values_Same.M
    refine enter tabOk Tryd.func22 rfl (by decide) (Nat.le_of_ble_eq_true rfl) rfl rfl rfl ?_
    refine AWP.seq ?_
    refine nd (by decide) _ _ _ ?_
    (repeat (first | ((conv => whnf); (with_reducible refine And.intro ?_ ?_); (focus (first | exact Eq.refl _ | exact trivial | exact Int.natCast_nonneg _ | assumption | exact Nat.le_of_ble_eq_true (Eq.refl true) | decide))))); (conv => whnf)
    refine AWP.seq ?_
    obtain ⟨c2, hc2, hF⟩ := bind_some hF
    obtain ⟨c4, hc4, hF⟩ := bind_some hF
    refine AWP.cutN (fun T => ∃ r, WS r T ⟨[(4, .c none (.v (.bool c4)))], []⟩) ?_ (fun T hw => ?_)
    · refine nd (by decide) _ _ _ ?_
      (repeat (first | ((conv => whnf); (with_reducible refine And.intro ?_ ?_); (focus (first | exact Eq.refl _ | exact trivial | exact Int.natCast_nonneg _ | assumption | exact Nat.le_of_ble_eq_true (Eq.refl true) | decide))))); (conv => whnf)
      refine branchG_intro true (fun hc5 => ?_) (fun hc5 => ?_)
      · (conv => whnf)
        (repeat (first | ((conv => whnf); (with_reducible refine And.intro ?_ ?_); (focus (first | exact Eq.refl _ | exact trivial | exact Int.natCast_nonneg _ | assumption | exact Nat.le_of_ble_eq_true (Eq.refl true) | decide))))); (conv => whnf)
        refine branchG_intro true (fun hc6 => ?_) (fun hc6 => ?_)
        · (conv => whnf)
          (repeat (first | ((conv => whnf); (with_reducible refine And.intro ?_ ?_); (focus (first | exact Eq.refl _ | exact trivial | exact Int.natCast_nonneg _ | assumption | exact Nat.le_of_ble_eq_true (Eq.refl true) | decide))))); (conv => whnf)
          refine branchG_intro true (fun hc7 => ?_) (fun hc7 => ?_)
          · (conv => whnf)
            (repeat (first | ((conv => whnf); (with_reducible refine And.intro ?_ ?_); (focus (first | exact Eq.refl _ | exact trivial | exact Int.natCast_nonneg _ | assumption | exact Nat.le_of_ble_eq_true (Eq.refl true) | decide))))); (conv => whnf)
            refine branchG_intro true (fun hc8 => ?_) (fun hc8 => ?_)
            · have hc2 := if_then (by first | assumption | exact Eq.refl _ | simp only [hc5, hc6, hc7, hc8, Bool.and_true, Bool.true_and, Bool.and_false, Bool.false_and, Bool.or_true, Bool.true_or, Bool.or_false, Bool.false_or, Bool.not_true, Bool.not_false, cond_true, cond_false, List.length_map]) hc2
              obtain ⟨r1, hr1, hc2⟩ := bind_some hc2
              (conv => whnf)
              (repeat (first | ((conv => whnf); (with_reducible refine And.intro ?_ ?_); (focus (first | exact Eq.refl _ | exact trivial | exact Int.natCast_nonneg _ | assumption | exact Nat.le_of_ble_eq_true (Eq.refl true) | decide))))); (conv => whnf)
              refine Exists.intro [] ?_
              (repeat (first | ((conv => whnf); (with_reducible refine And.intro ?_ ?_); (focus (first | exact Eq.refl _ | exact trivial | exact Int.natCast_nonneg _ | assumption | exact Nat.le_of_ble_eq_true (Eq.refl true) | decide))))); (conv => whnf)
              refine CallsX.mono (CallsX.weak (rn []) (slices_Equal_Exc_ok a.fSet.fList b.fSet.fList _ hr1) rfl (WS.mk (wt_cons (wd_c (WE.refl _)) (wt_cons (wd_c (WE.refl _)) wt_nil)) wb_nil)) ?_
              rintro d b ⟨rfl, rfl⟩
              (repeat (first | ((conv => whnf); (with_reducible refine And.intro ?_ ?_); (focus (first | exact Eq.refl _ | exact trivial | exact Int.natCast_nonneg _ | assumption | exact Nat.le_of_ble_eq_true (Eq.refl true) | decide))))); (conv => whnf)
              obtain rfl := some_eq hc2
              (repeat (first | ((conv => whnf); (with_reducible refine And.intro ?_ ?_); (focus (first | exact Eq.refl _ | exact trivial | exact Int.natCast_nonneg _ | assumption | exact Nat.le_of_ble_eq_true (Eq.refl true) | decide))))); (conv => whnf)
              refine branchG_intro true (fun hc9 => ?_) (fun hc9 => ?_)
              · have hc4 := if_then (by first | assumption | exact Eq.refl _ | simp only [hc5, hc6, hc7, hc8, hc9, Bool.and_true, Bool.true_and, Bool.and_false, Bool.false_and, Bool.or_true, Bool.true_or, Bool.or_false, Bool.false_or, Bool.not_true, Bool.not_false, cond_true, cond_false, List.length_map]) hc4
                obtain ⟨r3, hr3, hc4⟩ := bind_some hc4
                (conv => whnf)
                (repeat (first | ((conv => whnf); (with_reducible refine And.intro ?_ ?_); (focus (first | exact Eq.refl _ | exact trivial | exact Int.natCast_nonneg _ | assumption | exact Nat.le_of_ble_eq_true (Eq.refl true) | decide))))); (conv => whnf)
                refine Exists.intro [] ?_
                (repeat (first | ((conv => whnf); (with_reducible refine And.intro ?_ ?_); (focus (first | exact Eq.refl _ | exact trivial | exact Int.natCast_nonneg _ | assumption | exact Nat.le_of_ble_eq_true (Eq.refl true) | decide))))); (conv => whnf)
                refine CallsX.mono (CallsX.weak (rn []) (ih_slices_EqualFunc_Value_values_Same a.fKids b.fKids _ hr3) rfl (WS.mk (wt_cons (wd_c (WE.refl _)) (wt_cons (wd_c (WE.refl _)) (wt_cons (wd_c (WE.refl _)) wt_nil))) wb_nil)) ?_
                rintro d b ⟨rfl, rfl⟩
                (repeat (first | ((conv => whnf); (with_reducible refine And.intro ?_ ?_); (focus (first | exact Eq.refl _ | exact trivial | exact Int.natCast_nonneg _ | assumption | exact Nat.le_of_ble_eq_true (Eq.refl true) | decide))))); (conv => whnf)
                obtain rfl := some_eq hc4
                (repeat (first | ((conv => whnf); (with_reducible refine And.intro ?_ ?_); (focus (first | exact Eq.refl _ | exact trivial | exact Int.natCast_nonneg _ | assumption | exact Nat.le_of_ble_eq_true (Eq.refl true) | decide))))); (conv => whnf)
                exact Exists.intro (rn []) (WS.mk (wt_cons (wd_c (we_b (by first | exact Eq.refl _ | simp only [hc5, hc6, hc7, hc8, hc9, Bool.and_true, Bool.true_and, Bool.and_false, Bool.false_and, Bool.or_true, Bool.true_or, Bool.or_false, Bool.false_or, Bool.not_true, Bool.not_false, cond_true, cond_false, List.length_map]))) wt_nil) wb_nil)
              · have hc4 := if_else (by first | assumption | exact Eq.refl _ | simp only [hc5, hc6, hc7, hc8, hc9, Bool.and_true, Bool.true_and, Bool.and_false, Bool.false_and, Bool.or_true, Bool.true_or, Bool.or_false, Bool.false_or, Bool.not_true, Bool.not_false, cond_true, cond_false, List.length_map]) hc4
                (conv => whnf)
                obtain rfl := some_eq hc4
                (repeat (first | ((conv => whnf); (with_reducible refine And.intro ?_ ?_); (focus (first | exact Eq.refl _ | exact trivial | exact Int.natCast_nonneg _ | assumption | exact Nat.le_of_ble_eq_true (Eq.refl true) | decide))))); (conv => whnf)
                exact Exists.intro (rn []) (WS.mk (wt_cons (wd_c (we_b (by first | exact Eq.refl _ | simp only [hc5, hc6, hc7, hc8, hc9, Bool.and_true, Bool.true_and, Bool.and_false, Bool.false_and, Bool.or_true, Bool.true_or, Bool.or_false, Bool.false_or, Bool.not_true, Bool.not_false, cond_true, cond_false, List.length_map]))) wt_nil) wb_nil)
            · have hc2 := if_else (by first | assumption | exact Eq.refl _ | simp only [hc5, hc6, hc7, hc8, Bool.and_true, Bool.true_and, Bool.and_false, Bool.false_and, Bool.or_true, Bool.true_or, Bool.or_false, Bool.false_or, Bool.not_true, Bool.not_false, cond_true, cond_false, List.length_map]) hc2
              (conv => whnf)
              obtain rfl := some_eq hc2
              have hc4 := if_else (by first | assumption | exact Eq.refl _ | simp only [hc5, hc6, hc7, hc8, Bool.and_true, Bool.true_and, Bool.and_false, Bool.false_and, Bool.or_true, Bool.true_or, Bool.or_false, Bool.false_or, Bool.not_true, Bool.not_false, cond_true, cond_false, List.length_map]) hc4
              obtain rfl := some_eq hc4
              (repeat (first | ((conv => whnf); (with_reducible refine And.intro ?_ ?_); (focus (first | exact Eq.refl _ | exact trivial | exact Int.natCast_nonneg _ | assumption | exact Nat.le_of_ble_eq_true (Eq.refl true) | decide))))); (conv => whnf)
              exact Exists.intro (rn []) (WS.mk (wt_cons (wd_c (we_b (by first | exact Eq.refl _ | simp only [hc5, hc6, hc7, hc8, Bool.and_true, Bool.true_and, Bool.and_false, Bool.false_and, Bool.or_true, Bool.true_or, Bool.or_false, Bool.false_or, Bool.not_true, Bool.not_false, cond_true, cond_false, List.length_map]))) wt_nil) wb_nil)
          · (conv => whnf)
            have hc2 := if_else (by first | assumption | exact Eq.refl _ | simp only [hc5, hc6, hc7, Bool.and_true, Bool.true_and, Bool.and_false, Bool.false_and, Bool.or_true, Bool.true_or, Bool.or_false, Bool.false_or, Bool.not_true, Bool.not_false, cond_true, cond_false, List.length_map]) hc2
            obtain rfl := some_eq hc2
            have hc4 := if_else (by first | assumption | exact Eq.refl _ | simp only [hc5, hc6, hc7, Bool.and_true, Bool.true_and, Bool.and_false, Bool.false_and, Bool.or_true, Bool.true_or, Bool.or_false, Bool.false_or, Bool.not_true, Bool.not_false, cond_true, cond_false, List.length_map]) hc4
            obtain rfl := some_eq hc4
            (repeat (first | ((conv => whnf); (with_reducible refine And.intro ?_ ?_); (focus (first | exact Eq.refl _ | exact trivial | exact Int.natCast_nonneg _ | assumption | exact Nat.le_of_ble_eq_true (Eq.refl true) | decide))))); (conv => whnf)
            exact Exists.intro (rn []) (WS.mk (wt_cons (wd_c (we_b (by first | exact Eq.refl _ | simp only [hc5, hc6, hc7, Bool.and_true, Bool.true_and, Bool.and_false, Bool.false_and, Bool.or_true, Bool.true_or, Bool.or_false, Bool.false_or, Bool.not_true, Bool.not_false, cond_true, cond_false, List.length_map]))) wt_nil) wb_nil)
        · (conv => whnf)
          have hc2 := if_else (by first | assumption | exact Eq.refl _ | simp only [hc5, hc6, Bool.and_true, Bool.true_and, Bool.and_false, Bool.false_and, Bool.or_true, Bool.true_or, Bool.or_false, Bool.false_or, Bool.not_true, Bool.not_false, cond_true, cond_false, List.length_map]) hc2
          obtain rfl := some_eq hc2
          have hc4 := if_else (by first | assumption | exact Eq.refl _ | simp only [hc5, hc6, Bool.and_true, Bool.true_and, Bool.and_false, Bool.false_and, Bool.or_true, Bool.true_or, Bool.or_false, Bool.false_or, Bool.not_true, Bool.not_false, cond_true, cond_false, List.length_map]) hc4
          obtain rfl := some_eq hc4
          (repeat (first | ((conv => whnf); (with_reducible refine And.intro ?_ ?_); (focus (first | exact Eq.refl _ | exact trivial | exact Int.natCast_nonneg _ | assumption | exact Nat.le_of_ble_eq_true (Eq.refl true) | decide))))); (conv => whnf)
          exact Exists.intro (rn []) (WS.mk (wt_cons (wd_c (we_b (by first | exact Eq.refl _ | simp only [hc5, hc6, Bool.and_true, Bool.true_and, Bool.and_false, Bool.false_and, Bool.or_true, Bool.true_or, Bool.or_false, Bool.false_or, Bool.not_true, Bool.not_false, cond_true, cond_false, List.length_map]))) wt_nil) wb_nil)
      · (conv => whnf)
        have hc2 := if_else (by first | assumption | exact Eq.refl _ | simp only [hc5, Bool.and_true, Bool.true_and, Bool.and_false, Bool.false_and, Bool.or_true, Bool.true_or, Bool.or_false, Bool.false_or, Bool.not_true, Bool.not_false, cond_true, cond_false, List.length_map]) hc2
        obtain rfl := some_eq hc2
        have hc4 := if_else (by first | assumption | exact Eq.refl _ | simp only [hc5, Bool.and_true, Bool.true_and, Bool.and_false, Bool.false_and, Bool.or_true, Bool.true_or, Bool.or_false, Bool.false_or, Bool.not_true, Bool.not_false, cond_true, cond_false, List.length_map]) hc4
        obtain rfl := some_eq hc4
        (repeat (first | ((conv => whnf); (with_reducible refine And.intro ?_ ?_); (focus (first | exact Eq.refl _ | exact trivial | exact Int.natCast_nonneg _ | assumption | exact Nat.le_of_ble_eq_true (Eq.refl true) | decide))))); (conv => whnf)
        exact Exists.intro (rn []) (WS.mk (wt_cons (wd_c (we_b (by first | exact Eq.refl _ | simp only [hc5, Bool.and_true, Bool.true_and, Bool.and_false, Bool.false_and, Bool.or_true, Bool.true_or, Bool.or_false, Bool.false_or, Bool.not_true, Bool.not_false, cond_true, cond_false, List.length_map]))) wt_nil) wb_nil)
    obtain ⟨r0, hw⟩ := hw
    (conv => whnf)
    refine AWP.weak r0 hw ?_
    obtain rfl := some_eq hF
    refine nd (by decide) _ _ _ ?_
    (repeat (first | ((conv => whnf); (with_reducible refine And.intro ?_ ?_); (focus (first | exact Eq.refl _ | exact trivial | exact Int.natCast_nonneg _ | assumption | exact Nat.le_of_ble_eq_true (Eq.refl true) | decide))))); (conv => whnf)
    exact Exists.intro (rn []) (WS.mk (wt_cons (wd_c (WE.refl _)) wt_nil) wb_nil)
  · intro slices_EqualFunc_Value_values_Same_l1' ih_slices_EqualFunc_Value_values_Same_l1 s1_ s2_ r hF
    unfold slices_EqualFunc_Value_values_Same.M
    refine enter tabOk Tryd.func40 rfl (by decide) (Nat.le_of_ble_eq_true rfl) rfl rfl rfl ?_
    refine AWP.seq ?_
    refine nd (by decide) _ _ _ ?_
    (repeat (first | ((conv => whnf); (with_reducible refine And.intro ?_ ?_); (focus (first | exact Eq.refl _ | exact trivial | exact Int.natCast_nonneg _ | assumption | exact Nat.le_of_ble_eq_true (Eq.refl true) | decide))))); (conv => whnf)
    refine AWP.seq ?_
    refine AWP.seq ?_
    refine nd (by decide) _ _ _ ?_
    (repeat (first | ((conv => whnf); (with_reducible refine And.intro ?_ ?_); (focus (first | exact Eq.refl _ | exact trivial | exact Int.natCast_nonneg _ | assumption | exact Nat.le_of_ble_eq_true (Eq.refl true) | decide))))); (conv => whnf)
    intro hlen4
    (try rw [List.length_map] at hlen4)
    (try rw [List.length_map])
    (repeat (first | ((conv => whnf); (with_reducible refine And.intro ?_ ?_); (focus (first | exact Eq.refl _ | exact trivial | exact Int.natCast_nonneg _ | assumption | exact Nat.le_of_ble_eq_true (Eq.refl true) | decide))))); (conv => whnf)
    intro hlen5
    (try rw [List.length_map] at hlen5)
    (try rw [List.length_map])
    (repeat (first | ((conv => whnf); (with_reducible refine And.intro ?_ ?_); (focus (first | exact Eq.refl _ | exact trivial | exact Int.natCast_nonneg _ | assumption | exact Nat.le_of_ble_eq_true (Eq.refl true) | decide))))); (conv => whnf)
    refine nd (by decide) _ _ _ ?_
    (conv => whnf)
    refine branch_hF hF (fun hc6 hF => ?_) (fun hc6 hF => ?_)
    · refine AWP.seq ?_
      refine nd (by decide) _ _ _ ?_
      (repeat (first | ((conv => whnf); (with_reducible refine And.intro ?_ ?_); (focus (first | exact Eq.refl _ | exact trivial | exact Int.natCast_nonneg _ | assumption | exact Nat.le_of_ble_eq_true (Eq.refl true) | decide))))); (conv => whnf)
      obtain rfl := some_eq hF
      refine nd (by decide) _ _ _ ?_
      (repeat (first | ((conv => whnf); (with_reducible refine And.intro ?_ ?_); (focus (first | exact Eq.refl _ | exact trivial | exact Int.natCast_nonneg _ | assumption | exact Nat.le_of_ble_eq_true (Eq.refl true) | decide))))); (conv => whnf)
      exact Exists.intro (rn []) (WS.mk (wt_cons (wd_c (WE.refl _)) wt_nil) wb_nil)
    · refine nd (by decide) _ _ _ ?_
      (conv => whnf)
      refine AWP.seq ?_
      refine AWP.seq ?_
      refine nd (by decide) _ _ _ ?_
      (repeat (first | ((conv => whnf); (with_reducible refine And.intro ?_ ?_); (focus (first | exact Eq.refl _ | exact trivial | exact Int.natCast_nonneg _ | assumption | exact Nat.le_of_ble_eq_true (Eq.refl true) | decide))))); (conv => whnf)
      intro hlen7
      (try rw [List.length_map] at hlen7)
      (try rw [List.length_map])
      (repeat (first | ((conv => whnf); (with_reducible refine And.intro ?_ ?_); (focus (first | exact Eq.refl _ | exact trivial | exact Int.natCast_nonneg _ | assumption | exact Nat.le_of_ble_eq_true (Eq.refl true) | decide))))); (conv => whnf)
      refine AWP.block ?_
      refine AWP.loop ?_
      refine AWL.weak (rn []) ?_ (ih_slices_EqualFunc_Value_values_Same_l1 s2_ s1_ 0 s1_ _ hF ([]) rfl rfl hlen7 hlen5)
      exact (WS.mk (wt_cons (wd_c (WE.refl _)) (wt_cons (wd_c (WE.refl _)) (wt_cons (wd_c (WE.refl _)) (wt_cons (wd_c (WE.refl _)) (wt_cons (wd_c (WE.refl _)) wt_nil))))) wb_nil)
  · intro values_Same' slices_EqualFunc_Value_values_Same_l1' ih_values_Same ih_slices_EqualFunc_Value_values_Same_l1 s2_ s1_ x_17 x_17_s_ r hF
    unfold slices_EqualFunc_Value_values_Same_l1.M
    intro pre_x_17 hs_x_17 hk_x_17 hlen7 hlen5
    refine AWL.step ?_
    refine AWP.seq ?_
    refine nd (by decide) _ _ _ ?_
    (repeat (first | ((conv => whnf); (with_reducible refine And.intro ?_ ?_); (focus (first | exact Eq.refl _ | exact trivial | exact Int.natCast_nonneg _ | assumption | exact Nat.le_of_ble_eq_true (Eq.refl true) | decide))))); (conv => whnf)
    refine AWP.seq ?_
    refine nd (by decide) _ _ _ ?_
    (conv => whnf)
    refine branch_list hs_x_17 hk_x_17 (fun x21 xs22 hp23 hx23 hl23 => ?_) (fun hp23 => ?_)
    · subst hp23
      refine nd (by decide) _ _ _ ?_
      (conv => whnf)
      refine AWP.seq ?_
      refine AWP.block ?_
      refine AWP.seq ?_
      refine nd (by decide) _ _ _ ?_
      (repeat (first | ((conv => whnf); (with_reducible refine And.intro ?_ ?_); (focus (first | exact Eq.refl _ | exact trivial | exact Int.natCast_nonneg _ | assumption | exact Nat.le_of_ble_eq_true (Eq.refl true) | decide))) | ((conv => whnf); rw [map_get (TValue.cells_eq x21) hx23]))); (conv => whnf)
      (repeat (first | ((conv => whnf); (with_reducible refine And.intro ?_ ?_); (focus (first | exact Eq.refl _ | exact trivial | exact Int.natCast_nonneg _ | assumption | exact Nat.le_of_ble_eq_true (Eq.refl true) | decide))))); (conv => whnf)
      refine AWP.seq ?_
      obtain ⟨x24, hx24, hF⟩ := bind_some hF
      refine nd (by decide) _ _ _ ?_
      (repeat (first | ((conv => whnf); (with_reducible refine And.intro ?_ ?_); (focus (first | exact Eq.refl _ | exact trivial | exact Int.natCast_nonneg _ | assumption | exact Nat.le_of_ble_eq_true (Eq.refl true) | decide))) | ((conv => whnf); rw [map_get (TValue.cells_eq x24) hx24]))); (conv => whnf)
      (repeat (first | ((conv => whnf); (with_reducible refine And.intro ?_ ?_); (focus (first | exact Eq.refl _ | exact trivial | exact Int.natCast_nonneg _ | assumption | exact Nat.le_of_ble_eq_true (Eq.refl true) | decide))))); (conv => whnf)
      refine AWP.seq ?_
      obtain ⟨r25, hr25, hF⟩ := bind_some hF
      refine nd (by decide) _ _ _ ?_
      (repeat (first | ((conv => whnf); (with_reducible refine And.intro ?_ ?_); (focus (first | exact Eq.refl _ | exact trivial | exact Int.natCast_nonneg _ | assumption | exact Nat.le_of_ble_eq_true (Eq.refl true) | decide))))); (conv => whnf)
      refine Exists.intro [] ?_
      (repeat (first | ((conv => whnf); (with_reducible refine And.intro ?_ ?_); (focus (first | exact Eq.refl _ | exact trivial | exact Int.natCast_nonneg _ | assumption | exact Nat.le_of_ble_eq_true (Eq.refl true) | decide))))); (conv => whnf)
      refine CallsX.mono (CallsX.weak (rn []) (ih_values_Same x21 x24 _ hr25) rfl (WS.mk (wt_cons (wd_agg (wl_cons (WE.refl _) (wl_cons (WE.refl _) (wl_cons (WE.refl _) (wl_cons (WE.refl _) (wl_cons (WE.refl _) (wl_cons (WE.refl _) wl_nil))))))) (wt_cons (wd_agg (wl_cons (WE.refl _) (wl_cons (WE.refl _) (wl_cons (WE.refl _) (wl_cons (WE.refl _) (wl_cons (WE.refl _) (wl_cons (WE.refl _) wl_nil))))))) wt_nil)) wb_nil)) ?_
      rintro d b ⟨rfl, rfl⟩
      (repeat (first | ((conv => whnf); (with_reducible refine And.intro ?_ ?_); (focus (first | exact Eq.refl _ | exact trivial | exact Int.natCast_nonneg _ | assumption | exact Nat.le_of_ble_eq_true (Eq.refl true) | decide))))); (conv => whnf)
      (repeat (first | ((conv => whnf); (with_reducible refine And.intro ?_ ?_); (focus (first | exact Eq.refl _ | exact trivial | exact Int.natCast_nonneg _ | assumption | exact Nat.le_of_ble_eq_true (Eq.refl true) | decide))))); (conv => whnf)
      refine nd (by decide) _ _ _ ?_
      (conv => whnf)
      refine branch_hF hF (fun hc26 hF => ?_) (fun hc26 hF => ?_)
      · refine AWP.seq ?_
        refine nd (by decide) _ _ _ ?_
        (repeat (first | ((conv => whnf); (with_reducible refine And.intro ?_ ?_); (focus (first | exact Eq.refl _ | exact trivial | exact Int.natCast_nonneg _ | assumption | exact Nat.le_of_ble_eq_true (Eq.refl true) | decide))))); (conv => whnf)
        obtain rfl := some_eq hF
        refine nd (by decide) _ _ _ ?_
        (repeat (first | ((conv => whnf); (with_reducible refine And.intro ?_ ?_); (focus (first | exact Eq.refl _ | exact trivial | exact Int.natCast_nonneg _ | assumption | exact Nat.le_of_ble_eq_true (Eq.refl true) | decide))))); (conv => whnf)
        exact Exists.intro (rn []) (WS.mk (wt_cons (wd_c (WE.refl _)) wt_nil) wb_nil)
      · refine nd (by decide) _ _ _ ?_
        (conv => whnf)
        refine nd (by decide) _ _ _ ?_
        (repeat (first | ((conv => whnf); (with_reducible refine And.intro ?_ ?_); (focus (first | exact Eq.refl _ | exact trivial | exact Int.natCast_nonneg _ | assumption | exact Nat.le_of_ble_eq_true (Eq.refl true) | decide))))); (conv => whnf)
        refine AWL.weak (rn []) ?_ (ih_slices_EqualFunc_Value_values_Same_l1 s2_ s1_ (x_17 + 1) xs22 _ hF (pre_x_17 ++ [x21]) (by rw [hs_x_17]; simp) (by rw [hk_x_17]; simp) hlen7 hlen5)
        exact (WS.mk (wt_cons (wd_c (WE.refl _)) (wt_cons (wd_c (WE.refl _)) (wt_cons (wd_c (WE.refl _)) (wt_cons (wd_c (WE.refl _)) (wt_cons (wd_c (we_i (wrap_succ hlen7 hl23))) wt_nil))))) wb_nil)
    · subst hp23
      refine nd (by decide) _ _ _ ?_
      (conv => whnf)
      refine AWP.seq ?_
      refine nd (by decide) _ _ _ ?_
      (repeat (first | ((conv => whnf); (with_reducible refine And.intro ?_ ?_); (focus (first | exact Eq.refl _ | exact trivial | exact Int.natCast_nonneg _ | assumption | exact Nat.le_of_ble_eq_true (Eq.refl true) | decide))))); (conv => whnf)
      obtain rfl := some_eq hF
      refine nd (by decide) _ _ _ ?_
      (repeat (first | ((conv => whnf); (with_reducible refine And.intro ?_ ?_); (focus (first | exact Eq.refl _ | exact trivial | exact Int.natCast_nonneg _ | assumption | exact Nat.le_of_ble_eq_true (Eq.refl true) | decide))))); (conv => whnf)
      exact Exists.intro (rn []) (WS.mk (wt_cons (wd_c (WE.refl _)) wt_nil) wb_nil)
theorem values_Same_ok : ∀ (a : TValue) (b : TValue), ∀ r, values_Same a b = some r → values_Same.M a b r := values_Same_all.1
theorem slices_EqualFunc_Value_values_Same_ok : ∀ (s1_ : (List TValue)) (s2_ : (List TValue)), ∀ r, slices_EqualFunc_Value_values_Same s1_ s2_ = some r → slices_EqualFunc_Value_values_Same.M s1_ s2_ r := values_Same_all.2.1
theorem slices_EqualFunc_Value_values_Same_l1_ok : ∀ (s2_ : (List TValue)) (s1_ : (List TValue)) (x_17 : Nat) (x_17_s_ : (List TValue)), ∀ r, slices_EqualFunc_Value_values_Same_l1 s2_ s1_ x_17 x_17_s_ = some r → slices_EqualFunc_Value_values_Same_l1.M s2_ s1_ x_17 x_17_s_ r := values_Same_all.2.2
end Go.Proofs.YtafniolcakiljaaDoor

set_option linter.unusedVariables false
set_option linter.unusedSimpArgs false
set_option maxRecDepth 100000
set_option maxHeartbeats 4000000
namespace Go.Proofs.YtafniolcakiljaaDoor
open Go Go.Am
def lazycref25_SameSet_l1 (i_5 : Nat) (a : TExcSet) (b : TExcSet) (i_5_s_ : (List TExc)) : Option (Bool) :=
  (match i_5_s_ with
  | x25 :: xs26 =>
  (b.fList[i_5]?) >>= fun x28 =>
  if (!((x25.fCon.toList == x28.fCon.toList) && ((x25.fN == x28.fN) && true))) = true then
  some false
  else
  lazycref25_SameSet_l1 (i_5 + 1) a b xs26
  | [] =>
  some true)
  partial_fixpoint
def lazycref25_SameSet_l1.M (i_5 : Nat) (a : TExcSet) (b : TExcSet) (i_5_s_ : (List TExc)) (r : Bool) : Prop :=
  ∀ pre_i_5 : List TExc, a.fList = pre_i_5 ++ i_5_s_ → i_5 = pre_i_5.length → AWL Tryd.prog 38 (Code.sub (bodyOf Tryd.f26) [1, 1, 0, 1, 0, 0]) (Code.cont Tryd.prog 38 (bodyOf Tryd.f26) [1, 1, 0, 1, 0] (endK tab Tryd.f26.results [] (WRes (.c none (.v (.bool r))) []))) ⟨[(2, .ptr 2 0), (3, .ptr 3 0), (5, .c none (.v (.int .i64 ((i_5 : Nat) : Int))))], [(2, [(none, .v (.bool a.fAll)), (none, .sl (a.fList.map TExc.cells))]), (3, [(none, .v (.bool b.fAll)), (none, .sl (b.fList.map TExc.cells))])]⟩
theorem lazycref25_SameSet_l1_ok (i_5 : Nat) (a : TExcSet) (b : TExcSet) (i_5_s_ : (List TExc)) : ∀ r, lazycref25_SameSet_l1 i_5 a b i_5_s_ = some r → lazycref25_SameSet_l1.M i_5 a b i_5_s_ r := by
  refine lazycref25_SameSet_l1.partial_correctness a b (fun i_5 i_5_s_ r => lazycref25_SameSet_l1.M i_5 a b i_5_s_ r) ?_ i_5 i_5_s_
  intro lazycref25_SameSet_l1' ih0_lazycref25_SameSet_l1 i_5 i_5_s_ r hF
  have ih_lazycref25_SameSet_l1 := fun (i_5 : Nat) (_a : TExcSet) (_b : TExcSet) (i_5_s_ : (List TExc)) => ih0_lazycref25_SameSet_l1 i_5 i_5_s_
  clear ih0_lazycref25_SameSet_l1
  unfold lazycref25_SameSet_l1.M
  intro pre_i_5 hs_i_5 hk_i_5
  refine AWL.step ?_
  refine AWP.seq ?_
  refine AWP.seq ?_
  refine nd (by decide) _ _ _ ?_
  (repeat (first | ((conv => whnf); (with_reducible refine And.intro ?_ ?_); (focus (first | exact Eq.refl _ | exact trivial | exact Int.natCast_nonneg _ | assumption | exact Nat.le_of_ble_eq_true (Eq.refl true) | decide))))); (conv => whnf)
  intro hlen24
  (try rw [List.length_map] at hlen24)
  (try rw [List.length_map])
  (repeat (first | ((conv => whnf); (with_reducible refine And.intro ?_ ?_); (focus (first | exact Eq.refl _ | exact trivial | exact Int.natCast_nonneg _ | assumption | exact Nat.le_of_ble_eq_true (Eq.refl true) | decide))))); (conv => whnf)
  refine nd (by decide) _ _ _ ?_
  (conv => whnf)
  refine branch_list hs_i_5 hk_i_5 (fun x25 xs26 hp27 hx27 hl27 => ?_) (fun hp27 => ?_)
  · subst hp27
    refine nd (by decide) _ _ _ ?_
    (conv => whnf)
    refine AWP.seq ?_
    refine AWP.block ?_
    refine AWP.seq ?_
    obtain ⟨x28, hx28, hF⟩ := bind_some hF
    refine nd (by decide) _ _ _ ?_
    refine Exists.intro 10 (Exists.intro [[27, 28, 29, 30, 31, 32, 33, 34, 35, 36], [28, 29, 30, 31, 32, 33, 34, 35, 36], [27, 28, 29, 30, 31, 32, 33, 34, 35, 36], [30, 31, 32, 33, 34, 35, 36], [31, 32, 33, 34, 35, 36], [27, 28, 29, 30, 31, 32, 33, 34, 35, 36], [27, 28, 29, 30, 31, 33, 34, 35, 36], [27, 28, 29, 30, 31, 32, 33, 34, 35, 36], [27, 28, 29, 30, 31, 35, 36], [27, 28, 29, 30, 31, 36]] (Exists.intro [27, 28, 29, 30, 31, 32, 33, 34, 35, 36] (And.intro (by decide +kernel) ?_)))
    ((repeat (first | ((conv => whnf); (with_reducible refine And.intro ?_ ?_); (focus (first | exact Eq.refl _ | exact trivial | exact Int.natCast_nonneg _ | assumption | exact Nat.le_of_ble_eq_true (Eq.refl true) | decide))))); (conv => whnf); apply Exists.intro; apply Exists.intro; apply And.intro; (focus (((repeat (first | ((conv => whnf); (with_reducible refine And.intro ?_ ?_); (focus (first | exact Eq.refl _ | exact trivial | exact Int.natCast_nonneg _ | assumption | exact Nat.le_of_ble_eq_true (Eq.refl true) | decide))))); (conv => whnf)) <;> (exact rfl))); apply And.intro; (focus exact rfl); (conv => whnf))
    ((repeat (first | ((conv => whnf); (with_reducible refine And.intro ?_ ?_); (focus (first | exact Eq.refl _ | exact trivial | exact Int.natCast_nonneg _ | assumption | exact Nat.le_of_ble_eq_true (Eq.refl true) | decide))))); (conv => whnf); apply Exists.intro; apply Exists.intro; apply And.intro; (focus (((repeat (first | ((conv => whnf); (with_reducible refine And.intro ?_ ?_); (focus (first | exact Eq.refl _ | exact trivial | exact Int.natCast_nonneg _ | assumption | exact Nat.le_of_ble_eq_true (Eq.refl true) | decide))))); (conv => whnf)) <;> (exact rfl))); apply And.intro; (focus exact rfl); (conv => whnf))
    ((repeat (first | ((conv => whnf); (with_reducible refine And.intro ?_ ?_); (focus (first | exact Eq.refl _ | exact trivial | exact Int.natCast_nonneg _ | assumption | exact Nat.le_of_ble_eq_true (Eq.refl true) | decide))))); (conv => whnf); apply Exists.intro; apply Exists.intro; apply And.intro; (focus (((repeat (first | ((conv => whnf); (with_reducible refine And.intro ?_ ?_); (focus (first | exact Eq.refl _ | exact trivial | exact Int.natCast_nonneg _ | assumption | exact Nat.le_of_ble_eq_true (Eq.refl true) | decide))))); (conv => whnf)) <;> (exact rfl))); apply And.intro; (focus exact rfl); (conv => whnf))
    ((repeat (first | ((conv => whnf); (with_reducible refine And.intro ?_ ?_); (focus (first | exact Eq.refl _ | exact trivial | exact Int.natCast_nonneg _ | assumption | exact Nat.le_of_ble_eq_true (Eq.refl true) | decide))))); (conv => whnf); apply Exists.intro; apply Exists.intro; apply And.intro; (focus (((repeat (first | ((conv => whnf); (with_reducible refine And.intro ?_ ?_); (focus (first | exact Eq.refl _ | exact trivial | exact Int.natCast_nonneg _ | assumption | exact Nat.le_of_ble_eq_true (Eq.refl true) | decide))))); (conv => whnf)) <;> (rw [map_get (TExc.cells_eq x25) hx27]) <;> ((repeat (first | ((conv => whnf); (with_reducible refine And.intro ?_ ?_); (focus (first | exact Eq.refl _ | exact trivial | exact Int.natCast_nonneg _ | assumption | exact Nat.le_of_ble_eq_true (Eq.refl true) | decide))))); (conv => whnf)) <;> (exact rfl))); apply And.intro; (focus exact rfl); (conv => whnf))
    ((repeat (first | ((conv => whnf); (with_reducible refine And.intro ?_ ?_); (focus (first | exact Eq.refl _ | exact trivial | exact Int.natCast_nonneg _ | assumption | exact Nat.le_of_ble_eq_true (Eq.refl true) | decide))))); (conv => whnf); apply Exists.intro; apply Exists.intro; apply And.intro; (focus (((repeat (first | ((conv => whnf); (with_reducible refine And.intro ?_ ?_); (focus (first | exact Eq.refl _ | exact trivial | exact Int.natCast_nonneg _ | assumption | exact Nat.le_of_ble_eq_true (Eq.refl true) | decide))))); (conv => whnf)) <;> (exact rfl))); apply And.intro; (focus exact rfl); (conv => whnf))
    ((repeat (first | ((conv => whnf); (with_reducible refine And.intro ?_ ?_); (focus (first | exact Eq.refl _ | exact trivial | exact Int.natCast_nonneg _ | assumption | exact Nat.le_of_ble_eq_true (Eq.refl true) | decide))))); (conv => whnf); apply Exists.intro; apply Exists.intro; apply And.intro; (focus (((repeat (first | ((conv => whnf); (with_reducible refine And.intro ?_ ?_); (focus (first | exact Eq.refl _ | exact trivial | exact Int.natCast_nonneg _ | assumption | exact Nat.le_of_ble_eq_true (Eq.refl true) | decide))))); (conv => whnf)) <;> (exact rfl))); apply And.intro; (focus exact rfl); (conv => whnf))
    ((repeat (first | ((conv => whnf); (with_reducible refine And.intro ?_ ?_); (focus (first | exact Eq.refl _ | exact trivial | exact Int.natCast_nonneg _ | assumption | exact Nat.le_of_ble_eq_true (Eq.refl true) | decide))))); (conv => whnf); apply Exists.intro; apply Exists.intro; apply And.intro; (focus (((repeat (first | ((conv => whnf); (with_reducible refine And.intro ?_ ?_); (focus (first | exact Eq.refl _ | exact trivial | exact Int.natCast_nonneg _ | assumption | exact Nat.le_of_ble_eq_true (Eq.refl true) | decide))))); (conv => whnf)) <;> (exact rfl))); apply And.intro; (focus exact rfl); (conv => whnf))
    ((repeat (first | ((conv => whnf); (with_reducible refine And.intro ?_ ?_); (focus (first | exact Eq.refl _ | exact trivial | exact Int.natCast_nonneg _ | assumption | exact Nat.le_of_ble_eq_true (Eq.refl true) | decide))))); (conv => whnf); apply Exists.intro; apply Exists.intro; apply And.intro; (focus (((repeat (first | ((conv => whnf); (with_reducible refine And.intro ?_ ?_); (focus (first | exact Eq.refl _ | exact trivial | exact Int.natCast_nonneg _ | assumption | exact Nat.le_of_ble_eq_true (Eq.refl true) | decide))))); (conv => whnf)) <;> (exact rfl))); apply And.intro; (focus exact rfl); (conv => whnf))
    ((repeat (first | ((conv => whnf); (with_reducible refine And.intro ?_ ?_); (focus (first | exact Eq.refl _ | exact trivial | exact Int.natCast_nonneg _ | assumption | exact Nat.le_of_ble_eq_true (Eq.refl true) | decide))))); (conv => whnf); apply Exists.intro; apply Exists.intro; apply And.intro; (focus (((repeat (first | ((conv => whnf); (with_reducible refine And.intro ?_ ?_); (focus (first | exact Eq.refl _ | exact trivial | exact Int.natCast_nonneg _ | assumption | exact Nat.le_of_ble_eq_true (Eq.refl true) | decide))))); (conv => whnf)) <;> (rw [map_get (TExc.cells_eq x28) hx28]) <;> ((repeat (first | ((conv => whnf); (with_reducible refine And.intro ?_ ?_); (focus (first | exact Eq.refl _ | exact trivial | exact Int.natCast_nonneg _ | assumption | exact Nat.le_of_ble_eq_true (Eq.refl true) | decide))))); (conv => whnf)) <;> (exact rfl))); apply And.intro; (focus exact rfl); (conv => whnf))
    ((repeat (first | ((conv => whnf); (with_reducible refine And.intro ?_ ?_); (focus (first | exact Eq.refl _ | exact trivial | exact Int.natCast_nonneg _ | assumption | exact Nat.le_of_ble_eq_true (Eq.refl true) | decide))))); (conv => whnf); apply Exists.intro; apply Exists.intro; apply And.intro; (focus (((repeat (first | ((conv => whnf); (with_reducible refine And.intro ?_ ?_); (focus (first | exact Eq.refl _ | exact trivial | exact Int.natCast_nonneg _ | assumption | exact Nat.le_of_ble_eq_true (Eq.refl true) | decide))))); (conv => whnf)) <;> (exact rfl))); apply And.intro; (focus exact rfl); (conv => whnf))
    (repeat (first | ((conv => whnf); (with_reducible refine And.intro ?_ ?_); (focus (first | exact Eq.refl _ | exact trivial | exact Int.natCast_nonneg _ | assumption | exact Nat.le_of_ble_eq_true (Eq.refl true) | decide))))); (conv => whnf)
    refine nd (by decide) _ _ _ ?_
    (conv => whnf)
    refine branch_hF hF (fun hc29 hF => ?_) (fun hc29 hF => ?_)
    · refine AWP.seq ?_
      refine nd (by decide) _ _ _ ?_
      (repeat (first | ((conv => whnf); (with_reducible refine And.intro ?_ ?_); (focus (first | exact Eq.refl _ | exact trivial | exact Int.natCast_nonneg _ | assumption | exact Nat.le_of_ble_eq_true (Eq.refl true) | decide))))); (conv => whnf)
      obtain rfl := some_eq hF
      refine nd (by decide) _ _ _ ?_
      (repeat (first | ((conv => whnf); (with_reducible refine And.intro ?_ ?_); (focus (first | exact Eq.refl _ | exact trivial | exact Int.natCast_nonneg _ | assumption | exact Nat.le_of_ble_eq_true (Eq.refl true) | decide))))); (conv => whnf)
      exact Exists.intro (rn []) (WS.mk (wt_cons (wd_c (WE.refl _)) wt_nil) wb_nil)
    · refine nd (by decide) _ _ _ ?_
      (conv => whnf)
      refine nd (by decide) _ _ _ ?_
      (repeat (first | ((conv => whnf); (with_reducible refine And.intro ?_ ?_); (focus (first | exact Eq.refl _ | exact trivial | exact Int.natCast_nonneg _ | assumption | exact Nat.le_of_ble_eq_true (Eq.refl true) | decide))))); (conv => whnf)
      refine AWL.weak (rn []) ?_ (ih_lazycref25_SameSet_l1 (i_5 + 1) a b xs26 _ hF (pre_i_5 ++ [x25]) (by rw [hs_i_5]; simp) (by rw [hk_i_5]; simp))
      exact (WS.mk (wt_cons wd_ptr (wt_cons wd_ptr (wt_cons (wd_c (we_i (wrap_succ hlen24 hl27))) wt_nil))) (wb_cons rfl (wc_c (WE.refl _) (wc_c (WE.refl _) wc_nil)) (wb_cons rfl (wc_c (WE.refl _) (wc_c (WE.refl _) wc_nil)) wb_nil)))
  · subst hp27
    refine nd (by decide) _ _ _ ?_
    (conv => whnf)
    refine AWP.seq ?_
    refine nd (by decide) _ _ _ ?_
    (repeat (first | ((conv => whnf); (with_reducible refine And.intro ?_ ?_); (focus (first | exact Eq.refl _ | exact trivial | exact Int.natCast_nonneg _ | assumption | exact Nat.le_of_ble_eq_true (Eq.refl true) | decide))))); (conv => whnf)
    obtain rfl := some_eq hF
    refine nd (by decide) _ _ _ ?_
    (repeat (first | ((conv => whnf); (with_reducible refine And.intro ?_ ?_); (focus (first | exact Eq.refl _ | exact trivial | exact Int.natCast_nonneg _ | assumption | exact Nat.le_of_ble_eq_true (Eq.refl true) | decide))))); (conv => whnf)
    exact Exists.intro (rn []) (WS.mk (wt_cons (wd_c (WE.refl _)) wt_nil) wb_nil)
end Go.Proofs.YtafniolcakiljaaDoor

set_option linter.unusedVariables false
set_option linter.unusedSimpArgs false
set_option maxRecDepth 100000
set_option maxHeartbeats 4000000
namespace Go.Proofs.YtafniolcakiljaaDoor
open Go Go.Am
def lazycref25_SameSet (a : TExcSet) (b : TExcSet) : Option (Bool) :=
  if ((!(a.fAll == b.fAll)) || (((a.fList.length : Nat) : Int) != ((b.fList.length : Nat) : Int))) = true then
  some false
  else
  lazycref25_SameSet_l1 0 a b a.fList
def lazycref25_SameSet.M (a : TExcSet) (b : TExcSet) (r : Bool) : Prop :=
  CallsX Tryd.prog 26 [.agg [.v (.bool a.fAll), .sl (a.fList.map TExc.cells)], .agg [.v (.bool b.fAll), .sl (b.fList.map TExc.cells)]] [] (fun d b => d = .c none (.v (.bool r)) ∧ b = [])
theorem lazycref25_SameSet_ok (a : TExcSet) (b : TExcSet) (r : Bool) (hF : lazycref25_SameSet a b = some r) : lazycref25_SameSet.M a b r := by
  unfold lazycref25_SameSet at hF
  unfold lazycref25_SameSet.M
  refine enter tabOk Tryd.func26 rfl (by decide) (Nat.le_of_ble_eq_true rfl) rfl rfl rfl ?_
  refine AWP.seq ?_
  refine nd (by decide) _ _ _ ?_
  (repeat (first | ((conv => whnf); (with_reducible refine And.intro ?_ ?_); (focus (first | exact Eq.refl _ | exact trivial | exact Int.natCast_nonneg _ | assumption | exact Nat.le_of_ble_eq_true (Eq.refl true) | decide))))); (conv => whnf)
  refine AWP.seq ?_
  refine AWP.seq ?_
  refine AWP.cutN (fun T => ∃ r, WS r T ⟨[(2, .ptr 2 0), (3, .ptr 3 0), (19, .c none (.v (.bool ((!(a.fAll == b.fAll)) || (((a.fList.length : Nat) : Int) != ((b.fList.length : Nat) : Int))))))], [(2, [(none, .v (.bool a.fAll)), (none, .sl (a.fList.map TExc.cells))]), (3, [(none, .v (.bool b.fAll)), (none, .sl (b.fList.map TExc.cells))])]⟩) ?_ (fun T hw => ?_)
  · refine nd (by decide) _ _ _ ?_
    (repeat (first | ((conv => whnf); (with_reducible refine And.intro ?_ ?_); (focus (first | exact Eq.refl _ | exact trivial | exact Int.natCast_nonneg _ | assumption | exact Nat.le_of_ble_eq_true (Eq.refl true) | decide))))); (conv => whnf)
    refine branchG_intro false (fun hc6 => ?_) (fun hc6 => ?_)
    · (conv => whnf)
      (repeat (first | ((conv => whnf); (with_reducible refine And.intro ?_ ?_); (focus (first | exact Eq.refl _ | exact trivial | exact Int.natCast_nonneg _ | assumption | exact Nat.le_of_ble_eq_true (Eq.refl true) | decide))))); (conv => whnf)
      exact Exists.intro (rn []) (WS.mk (wt_cons wd_ptr (wt_cons wd_ptr (wt_cons (wd_c (we_b (by first | exact Eq.refl _ | simp only [hc6, Bool.and_true, Bool.true_and, Bool.and_false, Bool.false_and, Bool.or_true, Bool.true_or, Bool.or_false, Bool.false_or, Bool.not_true, Bool.not_false, cond_true, cond_false, List.length_map]))) wt_nil))) (wb_cons rfl (wc_c (WE.refl _) (wc_c (WE.refl _) wc_nil)) (wb_cons rfl (wc_c (WE.refl _) (wc_c (WE.refl _) wc_nil)) wb_nil)))
    · (conv => whnf)
      (repeat (first | ((conv => whnf); (with_reducible refine And.intro ?_ ?_); (focus (first | exact Eq.refl _ | exact trivial | exact Int.natCast_nonneg _ | assumption | exact Nat.le_of_ble_eq_true (Eq.refl true) | decide))))); (conv => whnf)
      intro hlen4
      (try rw [List.length_map] at hlen4)
      (try rw [List.length_map])
      (repeat (first | ((conv => whnf); (with_reducible refine And.intro ?_ ?_); (focus (first | exact Eq.refl _ | exact trivial | exact Int.natCast_nonneg _ | assumption | exact Nat.le_of_ble_eq_true (Eq.refl true) | decide))))); (conv => whnf)
      intro hlen5
      (try rw [List.length_map] at hlen5)
      (try rw [List.length_map])
      (repeat (first | ((conv => whnf); (with_reducible refine And.intro ?_ ?_); (focus (first | exact Eq.refl _ | exact trivial | exact Int.natCast_nonneg _ | assumption | exact Nat.le_of_ble_eq_true (Eq.refl true) | decide))))); (conv => whnf)
      exact Exists.intro (rn []) (WS.mk (wt_cons wd_ptr (wt_cons wd_ptr (wt_cons (wd_c (we_b (by first | exact Eq.refl _ | simp only [hc6, Bool.and_true, Bool.true_and, Bool.and_false, Bool.false_and, Bool.or_true, Bool.true_or, Bool.or_false, Bool.false_or, Bool.not_true, Bool.not_false, cond_true, cond_false, List.length_map]))) wt_nil))) (wb_cons rfl (wc_c (WE.refl _) (wc_c (WE.refl _) wc_nil)) (wb_cons rfl (wc_c (WE.refl _) (wc_c (WE.refl _) wc_nil)) wb_nil)))
  obtain ⟨r0, hw⟩ := hw
  (conv => whnf)
  refine AWP.weak r0 hw ?_
  refine nd (by decide) _ _ _ ?_
  (conv => whnf)
  refine branch_hF hF (fun hc7 hF => ?_) (fun hc7 hF => ?_)
  · refine AWP.seq ?_
    refine nd (by decide) _ _ _ ?_
    (repeat (first | ((conv => whnf); (with_reducible refine And.intro ?_ ?_); (focus (first | exact Eq.refl _ | exact trivial | exact Int.natCast_nonneg _ | assumption | exact Nat.le_of_ble_eq_true (Eq.refl true) | decide))))); (conv => whnf)
    obtain rfl := some_eq hF
    refine nd (by decide) _ _ _ ?_
    (repeat (first | ((conv => whnf); (with_reducible refine And.intro ?_ ?_); (focus (first | exact Eq.refl _ | exact trivial | exact Int.natCast_nonneg _ | assumption | exact Nat.le_of_ble_eq_true (Eq.refl true) | decide))))); (conv => whnf)
    exact Exists.intro (rn []) (WS.mk (wt_cons (wd_c (WE.refl _)) wt_nil) wb_nil)
  · refine nd (by decide) _ _ _ ?_
    (conv => whnf)
    refine AWP.seq ?_
    refine AWP.seq ?_
    refine nd (by decide) _ _ _ ?_
    (repeat (first | ((conv => whnf); (with_reducible refine And.intro ?_ ?_); (focus (first | exact Eq.refl _ | exact trivial | exact Int.natCast_nonneg _ | assumption | exact Nat.le_of_ble_eq_true (Eq.refl true) | decide))))); (conv => whnf)
    refine AWP.block ?_
    refine AWP.loop ?_
    refine AWL.weak (rn []) ?_ (lazycref25_SameSet_l1_ok 0 a b a.fList _ hF ([]) rfl rfl)
    exact (WS.mk (wt_cons wd_ptr (wt_cons wd_ptr (wt_cons (wd_c (WE.refl _)) wt_nil))) (wb_cons rfl (wc_c (WE.refl _) (wc_c (WE.refl _) wc_nil)) (wb_cons rfl (wc_c (WE.refl _) (wc_c (WE.refl _) wc_nil)) wb_nil)))
end Go.Proofs.YtafniolcakiljaaDoor

set_option linter.unusedVariables false
set_option linter.unusedSimpArgs false
set_option maxRecDepth 100000
set_option maxHeartbeats 4000000
namespace Go.Proofs.YtafniolcakiljaaDoor
open Go Go.Am
mutual
def lazycref25_Same (a : TValue) (b : TValue) : Option (Bool) :=
  (if (((a.fOp != b.fOp) || (!(a.fName.toList == b.fName.toList))) || (a.fN != b.fN)) = true then some true else lazycref25_SameSet a.fSet b.fSet >>= fun r6 =>
  some (!r6)) >>= fun c7 =>
  if (c7 || (((a.fKids.length : Nat) : Int) != ((b.fKids.length : Nat) : Int))) = true then
  some false
  else
  lazycref25_Same_l1 0 a b a.fKids
  partial_fixpoint
def lazycref25_Same_l1 (i_5 : Nat) (a : TValue) (b : TValue) (i_5_s_ : (List TValue)) : Option (Bool) :=
  (match i_5_s_ with
  | x34 :: xs35 =>
  (b.fKids[i_5]?) >>= fun x37 =>
  lazycref25_Same x34 x37 >>= fun r38 =>
  if (!r38) = true then
  some false
  else
  lazycref25_Same_l1 (i_5 + 1) a b xs35
  | [] =>
  some true)
  partial_fixpoint
end
def lazycref25_Same.M (a : TValue) (b : TValue) (r : Bool) : Prop :=
  CallsX Tryd.prog 18 [.agg [.v (.int .i64 a.fOp), .v (.string a.fName), .v (.int .i64 a.fN), .sl (a.fKids.map TValue.cells), .v (.bool a.fSet.fAll), .sl (a.fSet.fList.map TExc.cells)], .agg [.v (.int .i64 b.fOp), .v (.string b.fName), .v (.int .i64 b.fN), .sl (b.fKids.map TValue.cells), .v (.bool b.fSet.fAll), .sl (b.fSet.fList.map TExc.cells)]] [] (fun d b => d = .c none (.v (.bool r)) ∧ b = [])
def lazycref25_Same_l1.M (i_5 : Nat) (a : TValue) (b : TValue) (i_5_s_ : (List TValue)) (r : Bool) : Prop :=
  ∀ pre_i_5 : List TValue, a.fKids = pre_i_5 ++ i_5_s_ → i_5 = pre_i_5.length → AWL Tryd.prog 61 (Code.sub (bodyOf Tryd.f18) [1, 1, 0, 1, 0, 0]) (Code.cont Tryd.prog 61 (bodyOf Tryd.f18) [1, 1, 0, 1, 0] (endK tab Tryd.f18.results [] (WRes (.c none (.v (.bool r))) []))) ⟨[(2, .ptr 2 0), (3, .ptr 3 0), (5, .c none (.v (.int .i64 ((i_5 : Nat) : Int))))], [(2, [(none, .v (.int .i64 a.fOp)), (none, .v (.string a.fName)), (none, .v (.int .i64 a.fN)), (none, .sl (a.fKids.map TValue.cells)), (none, .v (.bool a.fSet.fAll)), (none, .sl (a.fSet.fList.map TExc.cells))]), (3, [(none, .v (.int .i64 b.fOp)), (none, .v (.string b.fName)), (none, .v (.int .i64 b.fN)), (none, .sl (b.fKids.map TValue.cells)), (none, .v (.bool b.fSet.fAll)), (none, .sl (b.fSet.fList.map TExc.cells))])]⟩
theorem lazycref25_Same_all : (∀ (a : TValue) (b : TValue), ∀ r, lazycref25_Same a b = some r → lazycref25_Same.M a b r) ∧ (∀ (i_5 : Nat) (a : TValue) (b : TValue) (i_5_s_ : (List TValue)), ∀ r, lazycref25_Same_l1 i_5 a b i_5_s_ = some r → lazycref25_Same_l1.M i_5 a b i_5_s_ r) := by
  refine lazycref25_Same.mutual_partial_correctness lazycref25_Same.M lazycref25_Same_l1.M ?_ ?_
  · intro lazycref25_Same_l1' ih_lazycref25_Same_l1 a b r hF
    unfold lazycref25_Same.M
    refine enter tabOk Tryd.func18 rfl (by decide) (Nat.le_of_ble_eq_true rfl) rfl rfl rfl ?_
    refine AWP.seq ?_
    refine nd (by decide) _ _ _ ?_
    (repeat (first | ((conv => whnf); (with_reducible refine And.intro ?_ ?_); (focus (first | exact Eq.refl _ | exact trivial | exact Int.natCast_nonneg _ | assumption | exact Nat.le_of_ble_eq_true (Eq.refl true) | decide))))); (conv => whnf)
    refine AWP.seq ?_
    refine AWP.seq ?_
    obtain ⟨c7, hc7, hF⟩ := bind_some hF
    refine AWP.cutN (fun T => ∃ r, WS r T ⟨[(2, .ptr 2 0), (3, .ptr 3 0), (41, .c none (.v (.bool (c7 || (((a.fKids.length : Nat) : Int) != ((b.fKids.length : Nat) : Int))))))], [(2, [(none, .v (.int .i64 a.fOp)), (none, .v (.string a.fName)), (none, .v (.int .i64 a.fN)), (none, .sl (a.fKids.map TValue.cells)), (none, .v (.bool a.fSet.fAll)), (none, .sl (a.fSet.fList.map TExc.cells))]), (3, [(none, .v (.int .i64 b.fOp)), (none, .v (.string b.fName)), (none, .v (.int .i64 b.fN)), (none, .sl (b.fKids.map TValue.cells)), (none, .v (.bool b.fSet.fAll)), (none, .sl (b.fSet.fList.map TExc.cells))])]⟩) ?_ (fun T hw => ?_)
    · refine nd (by decide) _ _ _ ?_
      (repeat (first | ((conv => whnf); (with_reducible refine And.intro ?_ ?_); (focus (first | exact Eq.refl _ | exact trivial | exact Int.natCast_nonneg _ | assumption | exact Nat.le_of_ble_eq_true (Eq.refl true) | decide))))); (conv => whnf)
      refine branchG_intro false (fun hc10 => ?_) (fun hc10 => ?_)
      · (conv => whnf)
        have hc7 := if_then (by first | assumption | exact Eq.refl _ | simp only [hc10, Bool.and_true, Bool.true_and, Bool.and_false, Bool.false_and, Bool.or_true, Bool.true_or, Bool.or_false, Bool.false_or, Bool.not_true, Bool.not_false, cond_true, cond_false, List.length_map]) hc7
        obtain rfl := some_eq hc7
        (repeat (first | ((conv => whnf); (with_reducible refine And.intro ?_ ?_); (focus (first | exact Eq.refl _ | exact trivial | exact Int.natCast_nonneg _ | assumption | exact Nat.le_of_ble_eq_true (Eq.refl true) | decide))))); (conv => whnf)
        exact Exists.intro (rn []) (WS.mk (wt_cons wd_ptr (wt_cons wd_ptr (wt_cons (wd_c (we_b (by first | exact Eq.refl _ | simp only [hc10, Bool.and_true, Bool.true_and, Bool.and_false, Bool.false_and, Bool.or_true, Bool.true_or, Bool.or_false, Bool.false_or, Bool.not_true, Bool.not_false, cond_true, cond_false, List.length_map]))) wt_nil))) (wb_cons rfl (wc_c (WE.refl _) (wc_c (WE.refl _) (wc_c (WE.refl _) (wc_c (WE.refl _) (wc_c (WE.refl _) (wc_c (WE.refl _) wc_nil)))))) (wb_cons rfl (wc_c (WE.refl _) (wc_c (WE.refl _) (wc_c (WE.refl _) (wc_c (WE.refl _) (wc_c (WE.refl _) (wc_c (WE.refl _) wc_nil)))))) wb_nil)))
      · (conv => whnf)
        (repeat (first | ((conv => whnf); (with_reducible refine And.intro ?_ ?_); (focus (first | exact Eq.refl _ | exact trivial | exact Int.natCast_nonneg _ | assumption | exact Nat.le_of_ble_eq_true (Eq.refl true) | decide))))); (conv => whnf)
        refine branchG_intro false (fun hc11 => ?_) (fun hc11 => ?_)
        · (conv => whnf)
          have hc7 := if_then (by first | assumption | exact Eq.refl _ | simp only [hc10, hc11, Bool.and_true, Bool.true_and, Bool.and_false, Bool.false_and, Bool.or_true, Bool.true_or, Bool.or_false, Bool.false_or, Bool.not_true, Bool.not_false, cond_true, cond_false, List.length_map]) hc7
          obtain rfl := some_eq hc7
          (repeat (first | ((conv => whnf); (with_reducible refine And.intro ?_ ?_); (focus (first | exact Eq.refl _ | exact trivial | exact Int.natCast_nonneg _ | assumption | exact Nat.le_of_ble_eq_true (Eq.refl true) | decide))))); (conv => whnf)
          exact Exists.intro (rn []) (WS.mk (wt_cons wd_ptr (wt_cons wd_ptr (wt_cons (wd_c (we_b (by first | exact Eq.refl _ | simp only [hc10, hc11, Bool.and_true, Bool.true_and, Bool.and_false, Bool.false_and, Bool.or_true, Bool.true_or, Bool.or_false, Bool.false_or, Bool.not_true, Bool.not_false, cond_true, cond_false, List.length_map]))) wt_nil))) (wb_cons rfl (wc_c (WE.refl _) (wc_c (WE.refl _) (wc_c (WE.refl _) (wc_c (WE.refl _) (wc_c (WE.refl _) (wc_c (WE.refl _) wc_nil)))))) (wb_cons rfl (wc_c (WE.refl _) (wc_c (WE.refl _) (wc_c (WE.refl _) (wc_c (WE.refl _) (wc_c (WE.refl _) (wc_c (WE.refl _) wc_nil)))))) wb_nil)))
        · (conv => whnf)
          (repeat (first | ((conv => whnf); (with_reducible refine And.intro ?_ ?_); (focus (first | exact Eq.refl _ | exact trivial | exact Int.natCast_nonneg _ | assumption | exact Nat.le_of_ble_eq_true (Eq.refl true) | decide))))); (conv => whnf)
          refine branchG_intro false (fun hc12 => ?_) (fun hc12 => ?_)
          · have hc7 := if_then (by first | assumption | exact Eq.refl _ | simp only [hc10, hc11, hc12, Bool.and_true, Bool.true_and, Bool.and_false, Bool.false_and, Bool.or_true, Bool.true_or, Bool.or_false, Bool.false_or, Bool.not_true, Bool.not_false, cond_true, cond_false, List.length_map]) hc7
            (conv => whnf)
            obtain rfl := some_eq hc7
            (repeat (first | ((conv => whnf); (with_reducible refine And.intro ?_ ?_); (focus (first | exact Eq.refl _ | exact trivial | exact Int.natCast_nonneg _ | assumption | exact Nat.le_of_ble_eq_true (Eq.refl true) | decide))))); (conv => whnf)
            exact Exists.intro (rn []) (WS.mk (wt_cons wd_ptr (wt_cons wd_ptr (wt_cons (wd_c (we_b (by first | exact Eq.refl _ | simp only [hc10, hc11, hc12, Bool.and_true, Bool.true_and, Bool.and_false, Bool.false_and, Bool.or_true, Bool.true_or, Bool.or_false, Bool.false_or, Bool.not_true, Bool.not_false, cond_true, cond_false, List.length_map]))) wt_nil))) (wb_cons rfl (wc_c (WE.refl _) (wc_c (WE.refl _) (wc_c (WE.refl _) (wc_c (WE.refl _) (wc_c (WE.refl _) (wc_c (WE.refl _) wc_nil)))))) (wb_cons rfl (wc_c (WE.refl _) (wc_c (WE.refl _) (wc_c (WE.refl _) (wc_c (WE.refl _) (wc_c (WE.refl _) (wc_c (WE.refl _) wc_nil)))))) wb_nil)))
          · have hc7 := if_else (by first | assumption | exact Eq.refl _ | simp only [hc10, hc11, hc12, Bool.and_true, Bool.true_and, Bool.and_false, Bool.false_and, Bool.or_true, Bool.true_or, Bool.or_false, Bool.false_or, Bool.not_true, Bool.not_false, cond_true, cond_false, List.length_map]) hc7
            obtain ⟨r6, hr6, hc7⟩ := bind_some hc7
            (conv => whnf)
            (repeat (first | ((conv => whnf); (with_reducible refine And.intro ?_ ?_); (focus (first | exact Eq.refl _ | exact trivial | exact Int.natCast_nonneg _ | assumption | exact Nat.le_of_ble_eq_true (Eq.refl true) | decide))))); (conv => whnf)
            refine Exists.intro [] ?_
            (repeat (first | ((conv => whnf); (with_reducible refine And.intro ?_ ?_); (focus (first | exact Eq.refl _ | exact trivial | exact Int.natCast_nonneg _ | assumption | exact Nat.le_of_ble_eq_true (Eq.refl true) | decide))))); (conv => whnf)
            refine CallsX.mono (CallsX.weak (rn []) (lazycref25_SameSet_ok a.fSet b.fSet _ hr6) rfl (WS.mk (wt_cons (wd_agg (wl_cons (WE.refl _) (wl_cons (WE.refl _) wl_nil))) (wt_cons (wd_agg (wl_cons (WE.refl _) (wl_cons (WE.refl _) wl_nil))) wt_nil)) wb_nil)) ?_
            rintro d b ⟨rfl, rfl⟩
            (repeat (first | ((conv => whnf); (with_reducible refine And.intro ?_ ?_); (focus (first | exact Eq.refl _ | exact trivial | exact Int.natCast_nonneg _ | assumption | exact Nat.le_of_ble_eq_true (Eq.refl true) | decide))))); (conv => whnf)
            obtain rfl := some_eq hc7
            (repeat (first | ((conv => whnf); (with_reducible refine And.intro ?_ ?_); (focus (first | exact Eq.refl _ | exact trivial | exact Int.natCast_nonneg _ | assumption | exact Nat.le_of_ble_eq_true (Eq.refl true) | decide))))); (conv => whnf)
            refine branchG_intro false (fun hc13 => ?_) (fun hc13 => ?_)
            · (conv => whnf)
              (repeat (first | ((conv => whnf); (with_reducible refine And.intro ?_ ?_); (focus (first | exact Eq.refl _ | exact trivial | exact Int.natCast_nonneg _ | assumption | exact Nat.le_of_ble_eq_true (Eq.refl true) | decide))))); (conv => whnf)
              exact Exists.intro (rn []) (WS.mk (wt_cons wd_ptr (wt_cons wd_ptr (wt_cons (wd_c (we_b (by first | exact Eq.refl _ | simp only [hc10, hc11, hc12, hc13, Bool.and_true, Bool.true_and, Bool.and_false, Bool.false_and, Bool.or_true, Bool.true_or, Bool.or_false, Bool.false_or, Bool.not_true, Bool.not_false, cond_true, cond_false, List.length_map]))) wt_nil))) (wb_cons rfl (wc_c (WE.refl _) (wc_c (WE.refl _) (wc_c (WE.refl _) (wc_c (WE.refl _) (wc_c (WE.refl _) (wc_c (WE.refl _) wc_nil)))))) (wb_cons rfl (wc_c (WE.refl _) (wc_c (WE.refl _) (wc_c (WE.refl _) (wc_c (WE.refl _) (wc_c (WE.refl _) (wc_c (WE.refl _) wc_nil)))))) wb_nil)))
            · (conv => whnf)
              (repeat (first | ((conv => whnf); (with_reducible refine And.intro ?_ ?_); (focus (first | exact Eq.refl _ | exact trivial | exact Int.natCast_nonneg _ | assumption | exact Nat.le_of_ble_eq_true (Eq.refl true) | decide))))); (conv => whnf)
              intro hlen8
              (try rw [List.length_map] at hlen8)
              (try rw [List.length_map])
              (repeat (first | ((conv => whnf); (with_reducible refine And.intro ?_ ?_); (focus (first | exact Eq.refl _ | exact trivial | exact Int.natCast_nonneg _ | assumption | exact Nat.le_of_ble_eq_true (Eq.refl true) | decide))))); (conv => whnf)
              intro hlen9
              (try rw [List.length_map] at hlen9)
              (try rw [List.length_map])
              (repeat (first | ((conv => whnf); (with_reducible refine And.intro ?_ ?_); (focus (first | exact Eq.refl _ | exact trivial | exact Int.natCast_nonneg _ | assumption | exact Nat.le_of_ble_eq_true (Eq.refl true) | decide))))); (conv => whnf)
              exact Exists.intro (rn []) (WS.mk (wt_cons wd_ptr (wt_cons wd_ptr (wt_cons (wd_c (we_b (by first | exact Eq.refl _ | simp only [hc10, hc11, hc12, hc13, Bool.and_true, Bool.true_and, Bool.and_false, Bool.false_and, Bool.or_true, Bool.true_or, Bool.or_false, Bool.false_or, Bool.not_true, Bool.not_false, cond_true, cond_false, List.length_map]))) wt_nil))) (wb_cons rfl (wc_c (WE.refl _) (wc_c (WE.refl _) (wc_c (WE.refl _) (wc_c (WE.refl _) (wc_c (WE.refl _) (wc_c (WE.refl _) wc_nil)))))) (wb_cons rfl (wc_c (WE.refl _) (wc_c (WE.refl _) (wc_c (WE.refl _) (wc_c (WE.refl _) (wc_c (WE.refl _) (wc_c (WE.refl _) wc_nil)))))) wb_nil)))
    obtain ⟨r0, hw⟩ := hw
    (conv => whnf)
    refine AWP.weak r0 hw ?_
    refine nd (by decide) _ _ _ ?_
    (conv => whnf)
    refine branch_hF hF (fun hc14 hF => ?_) (fun hc14 hF => ?_)
    · refine AWP.seq ?_
      refine nd (by decide) _ _ _ ?_
      (repeat (first | ((conv => whnf); (with_reducible refine And.intro ?_ ?_); (focus (first | exact Eq.refl _ | exact trivial | exact Int.natCast_nonneg _ | assumption | exact Nat.le_of_ble_eq_true (Eq.refl true) | decide))))); (conv => whnf)
      obtain rfl := some_eq hF
      refine nd (by decide) _ _ _ ?_
      (repeat (first | ((conv => whnf); (with_reducible refine And.intro ?_ ?_); (focus (first | exact Eq.refl _ | exact trivial | exact Int.natCast_nonneg _ | assumption | exact Nat.le_of_ble_eq_true (Eq.refl true) | decide))))); (conv => whnf)
      exact Exists.intro (rn []) (WS.mk (wt_cons (wd_c (WE.refl _)) wt_nil) wb_nil)
    · refine nd (by decide) _ _ _ ?_
      (conv => whnf)
      refine AWP.seq ?_
      refine AWP.seq ?_
      refine nd (by decide) _ _ _ ?_
      (repeat (first | ((conv => whnf); (with_reducible refine And.intro ?_ ?_); (focus (first | exact Eq.refl _ | exact trivial | exact Int.natCast_nonneg _ | assumption | exact Nat.le_of_ble_eq_true (Eq.refl true) | decide))))); (conv => whnf)
      refine AWP.block ?_
      refine AWP.loop ?_
      refine AWL.weak (rn []) ?_ (ih_lazycref25_Same_l1 0 a b a.fKids _ hF ([]) rfl rfl)
      exact (WS.mk (wt_cons wd_ptr (wt_cons wd_ptr (wt_cons (wd_c (WE.refl _)) wt_nil))) (wb_cons rfl (wc_c (WE.refl _) (wc_c (WE.refl _) (wc_c (WE.refl _) (wc_c (WE.refl _) (wc_c (WE.refl _) (wc_c (WE.refl _) wc_nil)))))) (wb_cons rfl (wc_c (WE.refl _) (wc_c (WE.refl _) (wc_c (WE.refl _) (wc_c (WE.refl _) (wc_c (WE.refl _) (wc_c (WE.refl _) wc_nil)))))) wb_nil)))
  · intro lazycref25_Same' lazycref25_Same_l1' ih_lazycref25_Same ih_lazycref25_Same_l1 i_5 a b i_5_s_ r hF
    unfold lazycref25_Same_l1.M
    intro pre_i_5 hs_i_5 hk_i_5
    refine AWL.step ?_
    refine AWP.seq ?_
    refine AWP.seq ?_
    refine nd (by decide) _ _ _ ?_
    (repeat (first | ((conv => whnf); (with_reducible refine And.intro ?_ ?_); (focus (first | exact Eq.refl _ | exact trivial | exact Int.natCast_nonneg _ | assumption | exact Nat.le_of_ble_eq_true (Eq.refl true) | decide))))); (conv => whnf)
    intro hlen33
    (try rw [List.length_map] at hlen33)
    (try rw [List.length_map])
    (repeat (first | ((conv => whnf); (with_reducible refine And.intro ?_ ?_); (focus (first | exact Eq.refl _ | exact trivial | exact Int.natCast_nonneg _ | assumption | exact Nat.le_of_ble_eq_true (Eq.refl true) | decide))))); (conv => whnf)
    refine nd (by decide) _ _ _ ?_
    (conv => whnf)
    refine branch_list hs_i_5 hk_i_5 (fun x34 xs35 hp36 hx36 hl36 => ?_) (fun hp36 => ?_)
    · subst hp36
      refine nd (by decide) _ _ _ ?_
      (conv => whnf)
      refine AWP.seq ?_
      refine AWP.block ?_
      refine AWP.seq ?_
      obtain ⟨x37, hx37, hF⟩ := bind_some hF
      obtain ⟨r38, hr38, hF⟩ := bind_some hF
      refine nd (by decide) _ _ _ ?_
      refine Exists.intro 10 (Exists.intro [[49, 50, 51, 52, 53, 54, 55, 56, 57, 58], [50, 51, 52, 53, 54, 55, 56, 57, 58], [49, 50, 51, 52, 53, 54, 55, 56, 57, 58], [52, 53, 54, 55, 56, 57, 58], [53, 54, 55, 56, 57, 58], [49, 50, 51, 52, 53, 54, 55, 56, 57, 58], [49, 50, 51, 52, 53, 55, 56, 57, 58], [49, 50, 51, 52, 53, 54, 55, 56, 57, 58], [49, 50, 51, 52, 53, 57, 58], [49, 50, 51, 52, 53, 58]] (Exists.intro [49, 50, 51, 52, 53, 54, 55, 56, 57, 58] (And.intro (by decide +kernel) ?_)))
      ((repeat (first | ((conv => whnf); (with_reducible refine And.intro ?_ ?_); (focus (first | exact Eq.refl _ | exact trivial | exact Int.natCast_nonneg _ | assumption | exact Nat.le_of_ble_eq_true (Eq.refl true) | decide))))); (conv => whnf); apply Exists.intro; apply Exists.intro; apply And.intro; (focus (((repeat (first | ((conv => whnf); (with_reducible refine And.intro ?_ ?_); (focus (first | exact Eq.refl _ | exact trivial | exact Int.natCast_nonneg _ | assumption | exact Nat.le_of_ble_eq_true (Eq.refl true) | decide))))); (conv => whnf)) <;> (exact rfl))); apply And.intro; (focus exact rfl); (conv => whnf))
      ((repeat (first | ((conv => whnf); (with_reducible refine And.intro ?_ ?_); (focus (first | exact Eq.refl _ | exact trivial | exact Int.natCast_nonneg _ | assumption | exact Nat.le_of_ble_eq_true (Eq.refl true) | decide))))); (conv => whnf); apply Exists.intro; apply Exists.intro; apply And.intro; (focus (((repeat (first | ((conv => whnf); (with_reducible refine And.intro ?_ ?_); (focus (first | exact Eq.refl _ | exact trivial | exact Int.natCast_nonneg _ | assumption | exact Nat.le_of_ble_eq_true (Eq.refl true) | decide))))); (conv => whnf)) <;> (exact rfl))); apply And.intro; (focus exact rfl); (conv => whnf))
      ((repeat (first | ((conv => whnf); (with_reducible refine And.intro ?_ ?_); (focus (first | exact Eq.refl _ | exact trivial | exact Int.natCast_nonneg _ | assumption | exact Nat.le_of_ble_eq_true (Eq.refl true) | decide))))); (conv => whnf); apply Exists.intro; apply Exists.intro; apply And.intro; (focus (((repeat (first | ((conv => whnf); (with_reducible refine And.intro ?_ ?_); (focus (first | exact Eq.refl _ | exact trivial | exact Int.natCast_nonneg _ | assumption | exact Nat.le_of_ble_eq_true (Eq.refl true) | decide))))); (conv => whnf)) <;> (exact rfl))); apply And.intro; (focus exact rfl); (conv => whnf))
      ((repeat (first | ((conv => whnf); (with_reducible refine And.intro ?_ ?_); (focus (first | exact Eq.refl _ | exact trivial | exact Int.natCast_nonneg _ | assumption | exact Nat.le_of_ble_eq_true (Eq.refl true) | decide))))); (conv => whnf); apply Exists.intro; apply Exists.intro; apply And.intro; (focus (((repeat (first | ((conv => whnf); (with_reducible refine And.intro ?_ ?_); (focus (first | exact Eq.refl _ | exact trivial | exact Int.natCast_nonneg _ | assumption | exact Nat.le_of_ble_eq_true (Eq.refl true) | decide))))); (conv => whnf)) <;> (rw [map_get (TValue.cells_eq x34) hx36]) <;> ((repeat (first | ((conv => whnf); (with_reducible refine And.intro ?_ ?_); (focus (first | exact Eq.refl _ | exact trivial | exact Int.natCast_nonneg _ | assumption | exact Nat.le_of_ble_eq_true (Eq.refl true) | decide))))); (conv => whnf)) <;> (exact rfl))); apply And.intro; (focus exact rfl); (conv => whnf))
      ((repeat (first | ((conv => whnf); (with_reducible refine And.intro ?_ ?_); (focus (first | exact Eq.refl _ | exact trivial | exact Int.natCast_nonneg _ | assumption | exact Nat.le_of_ble_eq_true (Eq.refl true) | decide))))); (conv => whnf); apply Exists.intro; apply Exists.intro; apply And.intro; (focus (((repeat (first | ((conv => whnf); (with_reducible refine And.intro ?_ ?_); (focus (first | exact Eq.refl _ | exact trivial | exact Int.natCast_nonneg _ | assumption | exact Nat.le_of_ble_eq_true (Eq.refl true) | decide))))); (conv => whnf)) <;> (exact rfl))); apply And.intro; (focus exact rfl); (conv => whnf))
      ((repeat (first | ((conv => whnf); (with_reducible refine And.intro ?_ ?_); (focus (first | exact Eq.refl _ | exact trivial | exact Int.natCast_nonneg _ | assumption | exact Nat.le_of_ble_eq_true (Eq.refl true) | decide))))); (conv => whnf); apply Exists.intro; apply Exists.intro; apply And.intro; (focus (((repeat (first | ((conv => whnf); (with_reducible refine And.intro ?_ ?_); (focus (first | exact Eq.refl _ | exact trivial | exact Int.natCast_nonneg _ | assumption | exact Nat.le_of_ble_eq_true (Eq.refl true) | decide))))); (conv => whnf)) <;> (exact rfl))); apply And.intro; (focus exact rfl); (conv => whnf))
      ((repeat (first | ((conv => whnf); (with_reducible refine And.intro ?_ ?_); (focus (first | exact Eq.refl _ | exact trivial | exact Int.natCast_nonneg _ | assumption | exact Nat.le_of_ble_eq_true (Eq.refl true) | decide))))); (conv => whnf); apply Exists.intro; apply Exists.intro; apply And.intro; (focus (((repeat (first | ((conv => whnf); (with_reducible refine And.intro ?_ ?_); (focus (first | exact Eq.refl _ | exact trivial | exact Int.natCast_nonneg _ | assumption | exact Nat.le_of_ble_eq_true (Eq.refl true) | decide))))); (conv => whnf)) <;> (exact rfl))); apply And.intro; (focus exact rfl); (conv => whnf))
      ((repeat (first | ((conv => whnf); (with_reducible refine And.intro ?_ ?_); (focus (first | exact Eq.refl _ | exact trivial | exact Int.natCast_nonneg _ | assumption | exact Nat.le_of_ble_eq_true (Eq.refl true) | decide))))); (conv => whnf); apply Exists.intro; apply Exists.intro; apply And.intro; (focus (((repeat (first | ((conv => whnf); (with_reducible refine And.intro ?_ ?_); (focus (first | exact Eq.refl _ | exact trivial | exact Int.natCast_nonneg _ | assumption | exact Nat.le_of_ble_eq_true (Eq.refl true) | decide))))); (conv => whnf)) <;> (exact rfl))); apply And.intro; (focus exact rfl); (conv => whnf))
      ((repeat (first | ((conv => whnf); (with_reducible refine And.intro ?_ ?_); (focus (first | exact Eq.refl _ | exact trivial | exact Int.natCast_nonneg _ | assumption | exact Nat.le_of_ble_eq_true (Eq.refl true) | decide))))); (conv => whnf); apply Exists.intro; apply Exists.intro; apply And.intro; (focus (((repeat (first | ((conv => whnf); (with_reducible refine And.intro ?_ ?_); (focus (first | exact Eq.refl _ | exact trivial | exact Int.natCast_nonneg _ | assumption | exact Nat.le_of_ble_eq_true (Eq.refl true) | decide))))); (conv => whnf)) <;> (rw [map_get (TValue.cells_eq x37) hx37]) <;> ((repeat (first | ((conv => whnf); (with_reducible refine And.intro ?_ ?_); (focus (first | exact Eq.refl _ | exact trivial | exact Int.natCast_nonneg _ | assumption | exact Nat.le_of_ble_eq_true (Eq.refl true) | decide))))); (conv => whnf)) <;> (exact rfl))); apply And.intro; (focus exact rfl); (conv => whnf))
      ((repeat (first | ((conv => whnf); (with_reducible refine And.intro ?_ ?_); (focus (first | exact Eq.refl _ | exact trivial | exact Int.natCast_nonneg _ | assumption | exact Nat.le_of_ble_eq_true (Eq.refl true) | decide))))); (conv => whnf); apply Exists.intro; apply Exists.intro; apply And.intro; (focus (((repeat (first | ((conv => whnf); (with_reducible refine And.intro ?_ ?_); (focus (first | exact Eq.refl _ | exact trivial | exact Int.natCast_nonneg _ | assumption | exact Nat.le_of_ble_eq_true (Eq.refl true) | decide))))); (conv => whnf)) <;> (exact rfl))); apply And.intro; (focus exact rfl); (conv => whnf))
      (repeat (first | ((conv => whnf); (with_reducible refine And.intro ?_ ?_); (focus (first | exact Eq.refl _ | exact trivial | exact Int.natCast_nonneg _ | assumption | exact Nat.le_of_ble_eq_true (Eq.refl true) | decide))))); (conv => whnf)
      refine Exists.intro [] ?_
      (repeat (first | ((conv => whnf); (with_reducible refine And.intro ?_ ?_); (focus (first | exact Eq.refl _ | exact trivial | exact Int.natCast_nonneg _ | assumption | exact Nat.le_of_ble_eq_true (Eq.refl true) | decide))))); (conv => whnf)
      refine CallsX.mono (CallsX.weak (rn []) (ih_lazycref25_Same x34 x37 _ hr38) rfl (WS.mk (wt_cons (wd_agg (wl_cons (WE.refl _) (wl_cons (WE.refl _) (wl_cons (WE.refl _) (wl_cons (WE.refl _) (wl_cons (WE.refl _) (wl_cons (WE.refl _) wl_nil))))))) (wt_cons (wd_agg (wl_cons (WE.refl _) (wl_cons (WE.refl _) (wl_cons (WE.refl _) (wl_cons (WE.refl _) (wl_cons (WE.refl _) (wl_cons (WE.refl _) wl_nil))))))) wt_nil)) wb_nil)) ?_
      rintro d b ⟨rfl, rfl⟩
      (repeat (first | ((conv => whnf); (with_reducible refine And.intro ?_ ?_); (focus (first | exact Eq.refl _ | exact trivial | exact Int.natCast_nonneg _ | assumption | exact Nat.le_of_ble_eq_true (Eq.refl true) | decide))))); (conv => whnf)
      (repeat (first | ((conv => whnf); (with_reducible refine And.intro ?_ ?_); (focus (first | exact Eq.refl _ | exact trivial | exact Int.natCast_nonneg _ | assumption | exact Nat.le_of_ble_eq_true (Eq.refl true) | decide))))); (conv => whnf)
      refine nd (by decide) _ _ _ ?_
      (conv => whnf)
      refine branch_hF hF (fun hc39 hF => ?_) (fun hc39 hF => ?_)
      · refine AWP.seq ?_
        refine nd (by decide) _ _ _ ?_
        (repeat (first | ((conv => whnf); (with_reducible refine And.intro ?_ ?_); (focus (first | exact Eq.refl _ | exact trivial | exact Int.natCast_nonneg _ | assumption | exact Nat.le_of_ble_eq_true (Eq.refl true) | decide))))); (conv => whnf)
        obtain rfl := some_eq hF
        refine nd (by decide) _ _ _ ?_
        (repeat (first | ((conv => whnf); (with_reducible refine And.intro ?_ ?_); (focus (first | exact Eq.refl _ | exact trivial | exact Int.natCast_nonneg _ | assumption | exact Nat.le_of_ble_eq_true (Eq.refl true) | decide))))); (conv => whnf)
        exact Exists.intro (rn []) (WS.mk (wt_cons (wd_c (WE.refl _)) wt_nil) wb_nil)
      · refine nd (by decide) _ _ _ ?_
        (conv => whnf)
        refine nd (by decide) _ _ _ ?_
        (repeat (first | ((conv => whnf); (with_reducible refine And.intro ?_ ?_); (focus (first | exact Eq.refl _ | exact trivial | exact Int.natCast_nonneg _ | assumption | exact Nat.le_of_ble_eq_true (Eq.refl true) | decide))))); (conv => whnf)
        refine AWL.weak (rn []) ?_ (ih_lazycref25_Same_l1 (i_5 + 1) a b xs35 _ hF (pre_i_5 ++ [x34]) (by rw [hs_i_5]; simp) (by rw [hk_i_5]; simp))
        exact (WS.mk (wt_cons wd_ptr (wt_cons wd_ptr (wt_cons (wd_c (we_i (wrap_succ hlen33 hl36))) wt_nil))) (wb_cons rfl (wc_c (WE.refl _) (wc_c (WE.refl _) (wc_c (WE.refl _) (wc_c (WE.refl _) (wc_c (WE.refl _) (wc_c (WE.refl _) wc_nil)))))) (wb_cons rfl (wc_c (WE.refl _) (wc_c (WE.refl _) (wc_c (WE.refl _) (wc_c (WE.refl _) (wc_c (WE.refl _) (wc_c (WE.refl _) wc_nil)))))) wb_nil)))
    · subst hp36
      refine nd (by decide) _ _ _ ?_
      (conv => whnf)
      refine AWP.seq ?_
      refine nd (by decide) _ _ _ ?_
      (repeat (first | ((conv => whnf); (with_reducible refine And.intro ?_ ?_); (focus (first | exact Eq.refl _ | exact trivial | exact Int.natCast_nonneg _ | assumption | exact Nat.le_of_ble_eq_true (Eq.refl true) | decide))))); (conv => whnf)
      obtain rfl := some_eq hF
      refine nd (by decide) _ _ _ ?_
      (repeat (first | ((conv => whnf); (with_reducible refine And.intro ?_ ?_); (focus (first | exact Eq.refl _ | exact trivial | exact Int.natCast_nonneg _ | assumption | exact Nat.le_of_ble_eq_true (Eq.refl true) | decide))))); (conv => whnf)
      exact Exists.intro (rn []) (WS.mk (wt_cons (wd_c (WE.refl _)) wt_nil) wb_nil)
theorem lazycref25_Same_ok : ∀ (a : TValue) (b : TValue), ∀ r, lazycref25_Same a b = some r → lazycref25_Same.M a b r := lazycref25_Same_all.1
theorem lazycref25_Same_l1_ok : ∀ (i_5 : Nat) (a : TValue) (b : TValue) (i_5_s_ : (List TValue)), ∀ r, lazycref25_Same_l1 i_5 a b i_5_s_ = some r → lazycref25_Same_l1.M i_5 a b i_5_s_ r := lazycref25_Same_all.2
end Go.Proofs.YtafniolcakiljaaDoor

set_option linter.unusedVariables false
set_option linter.unusedSimpArgs false
set_option maxRecDepth 100000
set_option maxHeartbeats 4000000
namespace Go.Proofs.YtafniolcakiljaaDoor
open Go Go.Am
mutual
def lazycref25_Nesting (v : TValue) : Option (Int) :=
  lazycref25_Nesting_l1 0 0 v v.fKids
  partial_fixpoint
def lazycref25_Nesting_l1 (n_3 : Int) (i_4 : Nat) (v : TValue) (i_4_s_ : (List TValue)) : Option (Int) :=
  (match i_4_s_ with
  | x16 :: xs17 =>
  lazycref25_Nesting x16 >>= fun r19 =>
  lazycref25_Nesting_l1 (if r19 > n_3 then r19 else n_3) (i_4 + 1) v xs17
  | [] =>
  some (IntKind.i64.wrap (n_3 + 1)))
  partial_fixpoint
end
def lazycref25_Nesting.M (v : TValue) (r : Int) : Prop :=
  CallsX Tryd.prog 45 [.agg [.v (.int .i64 v.fOp), .v (.string v.fName), .v (.int .i64 v.fN), .sl (v.fKids.map TValue.cells), .v (.bool v.fSet.fAll), .sl (v.fSet.fList.map TExc.cells)]] [] (fun d b => d = .c none (.v (.int .i64 r)) ∧ b = [])
def lazycref25_Nesting_l1.M (n_3 : Int) (i_4 : Nat) (v : TValue) (i_4_s_ : (List TValue)) (r : Int) : Prop :=
  ∀ pre_i_4 : List TValue, v.fKids = pre_i_4 ++ i_4_s_ → i_4 = pre_i_4.length → AWL Tryd.prog 22 (Code.sub (bodyOf Tryd.f45) [1, 1, 0, 1, 0, 0]) (Code.cont Tryd.prog 22 (bodyOf Tryd.f45) [1, 1, 0, 1, 0] (endK tab Tryd.f45.results [] (WRes (.c none (.v (.int .i64 r))) []))) ⟨[(1, .ptr 1 0), (3, .c none (.v (.int .i64 n_3))), (4, .c none (.v (.int .i64 ((i_4 : Nat) : Int))))], [(1, [(none, .v (.int .i64 v.fOp)), (none, .v (.string v.fName)), (none, .v (.int .i64 v.fN)), (none, .sl (v.fKids.map TValue.cells)), (none, .v (.bool v.fSet.fAll)), (none, .sl (v.fSet.fList.map TExc.cells))])]⟩
theorem lazycref25_Nesting_all : (∀ (v : TValue), ∀ r, lazycref25_Nesting v = some r → lazycref25_Nesting.M v r) ∧ (∀ (n_3 : Int) (i_4 : Nat) (v : TValue) (i_4_s_ : (List TValue)), ∀ r, lazycref25_Nesting_l1 n_3 i_4 v i_4_s_ = some r → lazycref25_Nesting_l1.M n_3 i_4 v i_4_s_ r) := by
  refine lazycref25_Nesting.mutual_partial_correctness lazycref25_Nesting.M lazycref25_Nesting_l1.M ?_ ?_
  · intro lazycref25_Nesting_l1' ih_lazycref25_Nesting_l1 v r hF
    unfold lazycref25_Nesting.M
    refine enter tabOk Tryd.func45 rfl (by decide) (Nat.le_of_ble_eq_true rfl) rfl rfl rfl ?_
    refine AWP.seq ?_
    refine nd (by decide) _ _ _ ?_
    (repeat (first | ((conv => whnf); (with_reducible refine And.intro ?_ ?_); (focus (first | exact Eq.refl _ | exact trivial | exact Int.natCast_nonneg _ | assumption | exact Nat.le_of_ble_eq_true (Eq.refl true) | decide))))); (conv => whnf)
    refine AWP.seq ?_
    refine nd (by decide) _ _ _ ?_
    (repeat (first | ((conv => whnf); (with_reducible refine And.intro ?_ ?_); (focus (first | exact Eq.refl _ | exact trivial | exact Int.natCast_nonneg _ | assumption | exact Nat.le_of_ble_eq_true (Eq.refl true) | decide))))); (conv => whnf)
    refine AWP.seq ?_
    refine AWP.seq ?_
    refine nd (by decide) _ _ _ ?_
    (repeat (first | ((conv => whnf); (with_reducible refine And.intro ?_ ?_); (focus (first | exact Eq.refl _ | exact trivial | exact Int.natCast_nonneg _ | assumption | exact Nat.le_of_ble_eq_true (Eq.refl true) | decide))))); (conv => whnf)
    refine AWP.block ?_
    refine AWP.loop ?_
    refine AWL.weak (rn []) ?_ (ih_lazycref25_Nesting_l1 0 0 v v.fKids _ hF ([]) rfl rfl)
    exact (WS.mk (wt_cons wd_ptr (wt_cons (wd_c (WE.refl _)) (wt_cons (wd_c (WE.refl _)) wt_nil))) (wb_cons rfl (wc_c (WE.refl _) (wc_c (WE.refl _) (wc_c (WE.refl _) (wc_c (WE.refl _) (wc_c (WE.refl _) (wc_c (WE.refl _) wc_nil)))))) wb_nil))
  · intro lazycref25_Nesting' lazycref25_Nesting_l1' ih_lazycref25_Nesting ih_lazycref25_Nesting_l1 n_3 i_4 v i_4_s_ r hF
    unfold lazycref25_Nesting_l1.M
    intro pre_i_4 hs_i_4 hk_i_4
    refine AWL.step ?_
    refine AWP.seq ?_
    refine AWP.seq ?_
    refine nd (by decide) _ _ _ ?_
    (repeat (first | ((conv => whnf); (with_reducible refine And.intro ?_ ?_); (focus (first | exact Eq.refl _ | exact trivial | exact Int.natCast_nonneg _ | assumption | exact Nat.le_of_ble_eq_true (Eq.refl true) | decide))))); (conv => whnf)
    intro hlen15
    (try rw [List.length_map] at hlen15)
    (try rw [List.length_map])
    (repeat (first | ((conv => whnf); (with_reducible refine And.intro ?_ ?_); (focus (first | exact Eq.refl _ | exact trivial | exact Int.natCast_nonneg _ | assumption | exact Nat.le_of_ble_eq_true (Eq.refl true) | decide))))); (conv => whnf)
    refine nd (by decide) _ _ _ ?_
    (conv => whnf)
    refine branch_list hs_i_4 hk_i_4 (fun x16 xs17 hp18 hx18 hl18 => ?_) (fun hp18 => ?_)
    · subst hp18
      refine nd (by decide) _ _ _ ?_
      (conv => whnf)
      refine AWP.seq ?_
      refine AWP.block ?_
      obtain ⟨r19, hr19, hF⟩ := bind_some hF
      refine nd (by decide) _ _ _ ?_
      (repeat (first | ((conv => whnf); (with_reducible refine And.intro ?_ ?_); (focus (first | exact Eq.refl _ | exact trivial | exact Int.natCast_nonneg _ | assumption | exact Nat.le_of_ble_eq_true (Eq.refl true) | decide))) | ((conv => whnf); rw [map_get (TValue.cells_eq x16) hx18]))); (conv => whnf)
      (repeat (first | ((conv => whnf); (with_reducible refine And.intro ?_ ?_); (focus (first | exact Eq.refl _ | exact trivial | exact Int.natCast_nonneg _ | assumption | exact Nat.le_of_ble_eq_true (Eq.refl true) | decide))))); (conv => whnf)
      refine Exists.intro [] ?_
      (repeat (first | ((conv => whnf); (with_reducible refine And.intro ?_ ?_); (focus (first | exact Eq.refl _ | exact trivial | exact Int.natCast_nonneg _ | assumption | exact Nat.le_of_ble_eq_true (Eq.refl true) | decide))))); (conv => whnf)
      refine CallsX.mono (CallsX.weak (rn []) (ih_lazycref25_Nesting x16 _ hr19) rfl (WS.mk (wt_cons (wd_agg (wl_cons (WE.refl _) (wl_cons (WE.refl _) (wl_cons (WE.refl _) (wl_cons (WE.refl _) (wl_cons (WE.refl _) (wl_cons (WE.refl _) wl_nil))))))) wt_nil) wb_nil)) ?_
      rintro d b ⟨rfl, rfl⟩
      (repeat (first | ((conv => whnf); (with_reducible refine And.intro ?_ ?_); (focus (first | exact Eq.refl _ | exact trivial | exact Int.natCast_nonneg _ | assumption | exact Nat.le_of_ble_eq_true (Eq.refl true) | decide))))); (conv => whnf)
      (repeat (first | ((conv => whnf); (with_reducible refine And.intro ?_ ?_); (focus (first | exact Eq.refl _ | exact trivial | exact Int.natCast_nonneg _ | assumption | exact Nat.le_of_ble_eq_true (Eq.refl true) | decide))))); (conv => whnf)
      refine nd (by decide) _ _ _ ?_
      (repeat (first | ((conv => whnf); (with_reducible refine And.intro ?_ ?_); (focus (first | exact Eq.refl _ | exact trivial | exact Int.natCast_nonneg _ | assumption | exact Nat.le_of_ble_eq_true (Eq.refl true) | decide))))); (conv => whnf)
      refine AWL.weak (rn []) ?_ (ih_lazycref25_Nesting_l1 (if r19 > n_3 then r19 else n_3) (i_4 + 1) v xs17 _ hF (pre_i_4 ++ [x16]) (by rw [hs_i_4]; simp) (by rw [hk_i_4]; simp))
      exact (WS.mk (wt_cons wd_ptr (wt_cons (wd_c (WE.refl _)) (wt_cons (wd_c (we_i (wrap_succ hlen15 hl18))) wt_nil))) (wb_cons rfl (wc_c (WE.refl _) (wc_c (WE.refl _) (wc_c (WE.refl _) (wc_c (WE.refl _) (wc_c (WE.refl _) (wc_c (WE.refl _) wc_nil)))))) wb_nil))
    · subst hp18
      refine nd (by decide) _ _ _ ?_
      (conv => whnf)
      refine AWP.seq ?_
      refine nd (by decide) _ _ _ ?_
      (repeat (first | ((conv => whnf); (with_reducible refine And.intro ?_ ?_); (focus (first | exact Eq.refl _ | exact trivial | exact Int.natCast_nonneg _ | assumption | exact Nat.le_of_ble_eq_true (Eq.refl true) | decide))))); (conv => whnf)
      obtain rfl := some_eq hF
      refine nd (by decide) _ _ _ ?_
      (repeat (first | ((conv => whnf); (with_reducible refine And.intro ?_ ?_); (focus (first | exact Eq.refl _ | exact trivial | exact Int.natCast_nonneg _ | assumption | exact Nat.le_of_ble_eq_true (Eq.refl true) | decide))))); (conv => whnf)
      exact Exists.intro (rn []) (WS.mk (wt_cons (wd_c (WE.refl _)) wt_nil) wb_nil)
theorem lazycref25_Nesting_ok : ∀ (v : TValue), ∀ r, lazycref25_Nesting v = some r → lazycref25_Nesting.M v r := lazycref25_Nesting_all.1
theorem lazycref25_Nesting_l1_ok : ∀ (n_3 : Int) (i_4 : Nat) (v : TValue) (i_4_s_ : (List TValue)), ∀ r, lazycref25_Nesting_l1 n_3 i_4 v i_4_s_ = some r → lazycref25_Nesting_l1.M n_3 i_4 v i_4_s_ r := lazycref25_Nesting_all.2
end Go.Proofs.YtafniolcakiljaaDoor

set_option linter.unusedVariables false
set_option linter.unusedSimpArgs false
set_option maxRecDepth 100000
set_option maxHeartbeats 4000000
namespace Go.Proofs.YtafniolcakiljaaDoor
open Go Go.Am
def lazycref25_ConName_l1 (s : ByteArray) (i_3 : Nat) : Option (Bool) :=
  if (decide (((i_3 : Nat) : Int) < ((s.size : Nat) : Int))) = true then
  (btI s ((i_3 : Nat) : Int)) >>= fun y40 =>
  (if (decide (((y40.toNat : Nat) : Int) < 33)) = true then some true else (btI s ((i_3 : Nat) : Int)) >>= fun y41 =>
  some (decide (((y41.toNat : Nat) : Int) > 126))) >>= fun c42 =>
  if c42 = true then
  some false
  else
  guardP (i_3 + 1 ≤ 9223372036854775807) >>= fun _ =>
  lazycref25_ConName_l1 s (i_3 + 1)
  else
  (btI s 0) >>= fun y46 =>
  (if (decide (((y46.toNat : Nat) : Int) ≥ 65)) = true then (btI s 0) >>= fun y47 =>
  some (decide (((y47.toNat : Nat) : Int) ≤ 90)) else some false) >>= fun c48 =>
  (if c48 = true then some true else (btI s 0) >>= fun y49 =>
  some (((y49.toNat : Nat) : Int) == 58)) >>= fun c50 =>
  (if c50 = true then some true else (btI s 0) >>= fun y51 =>
  some (((y51.toNat : Nat) : Int) == 91)) >>= fun c52 =>
  (if c52 = true then some true else (btI s 0) >>= fun y53 =>
  some (((y53.toNat : Nat) : Int) == 40)) >>= fun c54 =>
  some c54
  partial_fixpoint
def lazycref25_ConName_l1.M (s : ByteArray) (i_3 : Nat) (r : Bool) : Prop :=
  AWL Tryd.prog 54 (Code.sub (bodyOf Tryd.f60) [1, 1, 0, 1, 0, 0]) (Code.cont Tryd.prog 54 (bodyOf Tryd.f60) [1, 1, 0, 1, 0] (endK tab Tryd.f60.results [] (WRes (.c none (.v (.bool r))) []))) ⟨[(0, .c none (.v (.string s))), (3, .c none (.v (.int .i64 ((i_3 : Nat) : Int))))], []⟩
theorem lazycref25_ConName_l1_ok (s : ByteArray) (i_3 : Nat) : ∀ r, lazycref25_ConName_l1 s i_3 = some r → lazycref25_ConName_l1.M s i_3 r := by
  refine lazycref25_ConName_l1.partial_correctness s (fun i_3 r => lazycref25_ConName_l1.M s i_3 r) ?_ i_3
  intro lazycref25_ConName_l1' ih0_lazycref25_ConName_l1 i_3 r hF
  have ih_lazycref25_ConName_l1 := fun (_s : ByteArray) (i_3 : Nat) => ih0_lazycref25_ConName_l1 i_3
  clear ih0_lazycref25_ConName_l1
  unfold lazycref25_ConName_l1.M
  refine AWL.step ?_
  refine AWP.seq ?_
  refine AWP.seq ?_
  refine nd (by decide) _ _ _ ?_
  (repeat (first | ((conv => whnf); (with_reducible refine And.intro ?_ ?_); (focus (first | exact Eq.refl _ | exact trivial | exact Int.natCast_nonneg _ | assumption | exact Nat.le_of_ble_eq_true (Eq.refl true) | decide))))); (conv => whnf)
  refine nd (by decide) _ _ _ ?_
  (conv => whnf)
  refine branch_hF hF (fun hc39 hF => ?_) (fun hc39 hF => ?_)
  · refine nd (by decide) _ _ _ ?_
    (conv => whnf)
    refine AWP.seq ?_
    refine AWP.block ?_
    refine AWP.seq ?_
    obtain ⟨y40, hy400, hy40, hF⟩ := bt_some hF
    obtain ⟨c42, hc42, hF⟩ := bind_some hF
    refine AWP.cutN (fun T => ∃ r, WS r T ⟨[(0, .c none (.v (.string s))), (3, .c none (.v (.int .i64 ((i_3 : Nat) : Int)))), (30, .c none (.v (.bool c42)))], []⟩) ?_ (fun T hw => ?_)
    · refine nd (by decide) _ _ _ ?_
      (repeat (first | ((conv => whnf); (with_reducible refine And.intro ?_ ?_); (focus (first | exact Eq.refl _ | exact trivial | exact Int.natCast_nonneg _ | assumption | exact Nat.le_of_ble_eq_true (Eq.refl true) | decide))) | ((conv => whnf); rw [hy40]))); (conv => whnf)
      (repeat (first | ((conv => whnf); (with_reducible refine And.intro ?_ ?_); (focus (first | exact Eq.refl _ | exact trivial | exact Int.natCast_nonneg _ | assumption | exact Nat.le_of_ble_eq_true (Eq.refl true) | decide))))); (conv => whnf)
      refine branchG_intro false (fun hc43 => ?_) (fun hc43 => ?_)
      · have hc42 := if_then (by first | assumption | exact Eq.refl _ | simp only [hc43, Bool.and_true, Bool.true_and, Bool.and_false, Bool.false_and, Bool.or_true, Bool.true_or, Bool.or_false, Bool.false_or, Bool.not_true, Bool.not_false, cond_true, cond_false, List.length_map]) hc42
        (conv => whnf)
        obtain rfl := some_eq hc42
        (repeat (first | ((conv => whnf); (with_reducible refine And.intro ?_ ?_); (focus (first | exact Eq.refl _ | exact trivial | exact Int.natCast_nonneg _ | assumption | exact Nat.le_of_ble_eq_true (Eq.refl true) | decide))))); (conv => whnf)
        exact Exists.intro (rn []) (WS.mk (wt_cons (wd_c (WE.refl _)) (wt_cons (wd_c (WE.refl _)) (wt_cons (wd_c (we_b (by first | exact Eq.refl _ | simp only [hc43, Bool.and_true, Bool.true_and, Bool.and_false, Bool.false_and, Bool.or_true, Bool.true_or, Bool.or_false, Bool.false_or, Bool.not_true, Bool.not_false, cond_true, cond_false, List.length_map]))) wt_nil))) wb_nil)
      · have hc42 := if_else (by first | assumption | exact Eq.refl _ | simp only [hc43, Bool.and_true, Bool.true_and, Bool.and_false, Bool.false_and, Bool.or_true, Bool.true_or, Bool.or_false, Bool.false_or, Bool.not_true, Bool.not_false, cond_true, cond_false, List.length_map]) hc42
        obtain ⟨y41, hy410, hy41, hc42⟩ := bt_some hc42
        (conv => whnf)
        (repeat (first | ((conv => whnf); (with_reducible refine And.intro ?_ ?_); (focus (first | exact Eq.refl _ | exact trivial | exact Int.natCast_nonneg _ | assumption | exact Nat.le_of_ble_eq_true (Eq.refl true) | decide))) | ((conv => whnf); rw [hy41]))); (conv => whnf)
        obtain rfl := some_eq hc42
        (repeat (first | ((conv => whnf); (with_reducible refine And.intro ?_ ?_); (focus (first | exact Eq.refl _ | exact trivial | exact Int.natCast_nonneg _ | assumption | exact Nat.le_of_ble_eq_true (Eq.refl true) | decide))))); (conv => whnf)
        exact Exists.intro (rn []) (WS.mk (wt_cons (wd_c (WE.refl _)) (wt_cons (wd_c (WE.refl _)) (wt_cons (wd_c (we_b (by first | exact Eq.refl _ | simp only [hc43, Bool.and_true, Bool.true_and, Bool.and_false, Bool.false_and, Bool.or_true, Bool.true_or, Bool.or_false, Bool.false_or, Bool.not_true, Bool.not_false, cond_true, cond_false, List.length_map]))) wt_nil))) wb_nil)
    obtain ⟨r0, hw⟩ := hw
    (conv => whnf)
    refine AWP.weak r0 hw ?_
    refine nd (by decide) _ _ _ ?_
    (conv => whnf)
    refine branch_hF hF (fun hc44 hF => ?_) (fun hc44 hF => ?_)
    · refine AWP.seq ?_
      refine nd (by decide) _ _ _ ?_
      (repeat (first | ((conv => whnf); (with_reducible refine And.intro ?_ ?_); (focus (first | exact Eq.refl _ | exact trivial | exact Int.natCast_nonneg _ | assumption | exact Nat.le_of_ble_eq_true (Eq.refl true) | decide))))); (conv => whnf)
      obtain rfl := some_eq hF
      refine nd (by decide) _ _ _ ?_
      (repeat (first | ((conv => whnf); (with_reducible refine And.intro ?_ ?_); (focus (first | exact Eq.refl _ | exact trivial | exact Int.natCast_nonneg _ | assumption | exact Nat.le_of_ble_eq_true (Eq.refl true) | decide))))); (conv => whnf)
      exact Exists.intro (rn []) (WS.mk (wt_cons (wd_c (WE.refl _)) wt_nil) wb_nil)
    · refine nd (by decide) _ _ _ ?_
      (conv => whnf)
      obtain ⟨hg45, hF⟩ := guard_some hF
      refine nd (by decide) _ _ _ ?_
      (repeat (first | ((conv => whnf); (with_reducible refine And.intro ?_ ?_); (focus (first | exact Eq.refl _ | exact trivial | exact Int.natCast_nonneg _ | assumption | exact Nat.le_of_ble_eq_true (Eq.refl true) | decide))))); (conv => whnf)
      refine AWL.weak (rn []) ?_ (ih_lazycref25_ConName_l1 s (i_3 + 1) _ hF)
      exact (WS.mk (wt_cons (wd_c (WE.refl _)) (wt_cons (wd_c (we_i (wrap_nat hg45))) wt_nil)) wb_nil)
  · refine nd (by decide) _ _ _ ?_
    (conv => whnf)
    refine AWP.seq ?_
    obtain ⟨y46, hy460, hy46, hF⟩ := bt_some hF
    obtain ⟨c48, hc48, hF⟩ := bind_some hF
    obtain ⟨c50, hc50, hF⟩ := bind_some hF
    obtain ⟨c52, hc52, hF⟩ := bind_some hF
    obtain ⟨c54, hc54, hF⟩ := bind_some hF
    refine AWP.cutN (fun T => ∃ r, WS r T ⟨[(2, .c none (.v (.bool c54)))], []⟩) ?_ (fun T hw => ?_)
    · refine nd (by decide) _ _ _ ?_
      (repeat (first | ((conv => whnf); (with_reducible refine And.intro ?_ ?_); (focus (first | exact Eq.refl _ | exact trivial | exact Int.natCast_nonneg _ | assumption | exact Nat.le_of_ble_eq_true (Eq.refl true) | decide))) | ((conv => whnf); rw [hy46]))); (conv => whnf)
      (repeat (first | ((conv => whnf); (with_reducible refine And.intro ?_ ?_); (focus (first | exact Eq.refl _ | exact trivial | exact Int.natCast_nonneg _ | assumption | exact Nat.le_of_ble_eq_true (Eq.refl true) | decide))))); (conv => whnf)
      refine branchG_intro true (fun hc55 => ?_) (fun hc55 => ?_)
      · have hc48 := if_then (by first | assumption | exact Eq.refl _ | simp only [hc55, Bool.and_true, Bool.true_and, Bool.and_false, Bool.false_and, Bool.or_true, Bool.true_or, Bool.or_false, Bool.false_or, Bool.not_true, Bool.not_false, cond_true, cond_false, List.length_map]) hc48
        obtain ⟨y47, hy470, hy47, hc48⟩ := bt_some hc48
        (conv => whnf)
        (repeat (first | ((conv => whnf); (with_reducible refine And.intro ?_ ?_); (focus (first | exact Eq.refl _ | exact trivial | exact Int.natCast_nonneg _ | assumption | exact Nat.le_of_ble_eq_true (Eq.refl true) | decide))) | ((conv => whnf); rw [hy47]))); (conv => whnf)
        obtain rfl := some_eq hc48
        (repeat (first | ((conv => whnf); (with_reducible refine And.intro ?_ ?_); (focus (first | exact Eq.refl _ | exact trivial | exact Int.natCast_nonneg _ | assumption | exact Nat.le_of_ble_eq_true (Eq.refl true) | decide))))); (conv => whnf)
        refine branchG_intro false (fun hc56 => ?_) (fun hc56 => ?_)
        · have hc50 := if_then (by first | assumption | exact Eq.refl _ | simp only [hc55, hc56, Bool.and_true, Bool.true_and, Bool.and_false, Bool.false_and, Bool.or_true, Bool.true_or, Bool.or_false, Bool.false_or, Bool.not_true, Bool.not_false, cond_true, cond_false, List.length_map]) hc50
          (conv => whnf)
          obtain rfl := some_eq hc50
          have hc52 := if_then (by first | assumption | exact Eq.refl _ | simp only [hc55, hc56, Bool.and_true, Bool.true_and, Bool.and_false, Bool.false_and, Bool.or_true, Bool.true_or, Bool.or_false, Bool.false_or, Bool.not_true, Bool.not_false, cond_true, cond_false, List.length_map]) hc52
          obtain rfl := some_eq hc52
          have hc54 := if_then (by first | assumption | exact Eq.refl _ | simp only [hc55, hc56, Bool.and_true, Bool.true_and, Bool.and_false, Bool.false_and, Bool.or_true, Bool.true_or, Bool.or_false, Bool.false_or, Bool.not_true, Bool.not_false, cond_true, cond_false, List.length_map]) hc54
          obtain rfl := some_eq hc54
          (repeat (first | ((conv => whnf); (with_reducible refine And.intro ?_ ?_); (focus (first | exact Eq.refl _ | exact trivial | exact Int.natCast_nonneg _ | assumption | exact Nat.le_of_ble_eq_true (Eq.refl true) | decide))))); (conv => whnf)
          exact Exists.intro (rn []) (WS.mk (wt_cons (wd_c (we_b (by first | exact Eq.refl _ | simp only [hc55, hc56, Bool.and_true, Bool.true_and, Bool.and_false, Bool.false_and, Bool.or_true, Bool.true_or, Bool.or_false, Bool.false_or, Bool.not_true, Bool.not_false, cond_true, cond_false, List.length_map]))) wt_nil) wb_nil)
        · have hc50 := if_else (by first | assumption | exact Eq.refl _ | simp only [hc55, hc56, Bool.and_true, Bool.true_and, Bool.and_false, Bool.false_and, Bool.or_true, Bool.true_or, Bool.or_false, Bool.false_or, Bool.not_true, Bool.not_false, cond_true, cond_false, List.length_map]) hc50
          obtain ⟨y49, hy490, hy49, hc50⟩ := bt_some hc50
          (conv => whnf)
          (repeat (first | ((conv => whnf); (with_reducible refine And.intro ?_ ?_); (focus (first | exact Eq.refl _ | exact trivial | exact Int.natCast_nonneg _ | assumption | exact Nat.le_of_ble_eq_true (Eq.refl true) | decide))) | ((conv => whnf); rw [hy49]))); (conv => whnf)
          obtain rfl := some_eq hc50
          (repeat (first | ((conv => whnf); (with_reducible refine And.intro ?_ ?_); (focus (first | exact Eq.refl _ | exact trivial | exact Int.natCast_nonneg _ | assumption | exact Nat.le_of_ble_eq_true (Eq.refl true) | decide))))); (conv => whnf)
          refine branchG_intro false (fun hc57 => ?_) (fun hc57 => ?_)
          · have hc52 := if_then (by first | assumption | exact Eq.refl _ | simp only [hc55, hc56, hc57, Bool.and_true, Bool.true_and, Bool.and_false, Bool.false_and, Bool.or_true, Bool.true_or, Bool.or_false, Bool.false_or, Bool.not_true, Bool.not_false, cond_true, cond_false, List.length_map]) hc52
            (conv => whnf)
            obtain rfl := some_eq hc52
            have hc54 := if_then (by first | assumption | exact Eq.refl _ | simp only [hc55, hc56, hc57, Bool.and_true, Bool.true_and, Bool.and_false, Bool.false_and, Bool.or_true, Bool.true_or, Bool.or_false, Bool.false_or, Bool.not_true, Bool.not_false, cond_true, cond_false, List.length_map]) hc54
            obtain rfl := some_eq hc54
            (repeat (first | ((conv => whnf); (with_reducible refine And.intro ?_ ?_); (focus (first | exact Eq.refl _ | exact trivial | exact Int.natCast_nonneg _ | assumption | exact Nat.le_of_ble_eq_true (Eq.refl true) | decide))))); (conv => whnf)
            exact Exists.intro (rn []) (WS.mk (wt_cons (wd_c (we_b (by first | exact Eq.refl _ | simp only [hc55, hc56, hc57, Bool.and_true, Bool.true_and, Bool.and_false, Bool.false_and, Bool.or_true, Bool.true_or, Bool.or_false, Bool.false_or, Bool.not_true, Bool.not_false, cond_true, cond_false, List.length_map]))) wt_nil) wb_nil)
          · have hc52 := if_else (by first | assumption | exact Eq.refl _ | simp only [hc55, hc56, hc57, Bool.and_true, Bool.true_and, Bool.and_false, Bool.false_and, Bool.or_true, Bool.true_or, Bool.or_false, Bool.false_or, Bool.not_true, Bool.not_false, cond_true, cond_false, List.length_map]) hc52
            obtain ⟨y51, hy510, hy51, hc52⟩ := bt_some hc52
            (conv => whnf)
            (repeat (first | ((conv => whnf); (with_reducible refine And.intro ?_ ?_); (focus (first | exact Eq.refl _ | exact trivial | exact Int.natCast_nonneg _ | assumption | exact Nat.le_of_ble_eq_true (Eq.refl true) | decide))) | ((conv => whnf); rw [hy51]))); (conv => whnf)
            obtain rfl := some_eq hc52
            (repeat (first | ((conv => whnf); (with_reducible refine And.intro ?_ ?_); (focus (first | exact Eq.refl _ | exact trivial | exact Int.natCast_nonneg _ | assumption | exact Nat.le_of_ble_eq_true (Eq.refl true) | decide))))); (conv => whnf)
            refine branchG_intro false (fun hc58 => ?_) (fun hc58 => ?_)
            · have hc54 := if_then (by first | assumption | exact Eq.refl _ | simp only [hc55, hc56, hc57, hc58, Bool.and_true, Bool.true_and, Bool.and_false, Bool.false_and, Bool.or_true, Bool.true_or, Bool.or_false, Bool.false_or, Bool.not_true, Bool.not_false, cond_true, cond_false, List.length_map]) hc54
              (conv => whnf)
              obtain rfl := some_eq hc54
              (repeat (first | ((conv => whnf); (with_reducible refine And.intro ?_ ?_); (focus (first | exact Eq.refl _ | exact trivial | exact Int.natCast_nonneg _ | assumption | exact Nat.le_of_ble_eq_true (Eq.refl true) | decide))))); (conv => whnf)
              exact Exists.intro (rn []) (WS.mk (wt_cons (wd_c (we_b (by first | exact Eq.refl _ | simp only [hc55, hc56, hc57, hc58, Bool.and_true, Bool.true_and, Bool.and_false, Bool.false_and, Bool.or_true, Bool.true_or, Bool.or_false, Bool.false_or, Bool.not_true, Bool.not_false, cond_true, cond_false, List.length_map]))) wt_nil) wb_nil)
            · have hc54 := if_else (by first | assumption | exact Eq.refl _ | simp only [hc55, hc56, hc57, hc58, Bool.and_true, Bool.true_and, Bool.and_false, Bool.false_and, Bool.or_true, Bool.true_or, Bool.or_false, Bool.false_or, Bool.not_true, Bool.not_false, cond_true, cond_false, List.length_map]) hc54
              obtain ⟨y53, hy530, hy53, hc54⟩ := bt_some hc54
              (conv => whnf)
              (repeat (first | ((conv => whnf); (with_reducible refine And.intro ?_ ?_); (focus (first | exact Eq.refl _ | exact trivial | exact Int.natCast_nonneg _ | assumption | exact Nat.le_of_ble_eq_true (Eq.refl true) | decide))) | ((conv => whnf); rw [hy53]))); (conv => whnf)
              obtain rfl := some_eq hc54
              (repeat (first | ((conv => whnf); (with_reducible refine And.intro ?_ ?_); (focus (first | exact Eq.refl _ | exact trivial | exact Int.natCast_nonneg _ | assumption | exact Nat.le_of_ble_eq_true (Eq.refl true) | decide))))); (conv => whnf)
              exact Exists.intro (rn []) (WS.mk (wt_cons (wd_c (we_b (by first | exact Eq.refl _ | simp only [hc55, hc56, hc57, hc58, Bool.and_true, Bool.true_and, Bool.and_false, Bool.false_and, Bool.or_true, Bool.true_or, Bool.or_false, Bool.false_or, Bool.not_true, Bool.not_false, cond_true, cond_false, List.length_map]))) wt_nil) wb_nil)
      · have hc48 := if_else (by first | assumption | exact Eq.refl _ | simp only [hc55, Bool.and_true, Bool.true_and, Bool.and_false, Bool.false_and, Bool.or_true, Bool.true_or, Bool.or_false, Bool.false_or, Bool.not_true, Bool.not_false, cond_true, cond_false, List.length_map]) hc48
        (conv => whnf)
        obtain rfl := some_eq hc48
        have hc50 := if_else (by first | assumption | exact Eq.refl _ | simp only [hc55, Bool.and_true, Bool.true_and, Bool.and_false, Bool.false_and, Bool.or_true, Bool.true_or, Bool.or_false, Bool.false_or, Bool.not_true, Bool.not_false, cond_true, cond_false, List.length_map]) hc50
        obtain ⟨y49, hy490, hy49, hc50⟩ := bt_some hc50
        (repeat (first | ((conv => whnf); (with_reducible refine And.intro ?_ ?_); (focus (first | exact Eq.refl _ | exact trivial | exact Int.natCast_nonneg _ | assumption | exact Nat.le_of_ble_eq_true (Eq.refl true) | decide))) | ((conv => whnf); rw [hy49]))); (conv => whnf)
        obtain rfl := some_eq hc50
        (repeat (first | ((conv => whnf); (with_reducible refine And.intro ?_ ?_); (focus (first | exact Eq.refl _ | exact trivial | exact Int.natCast_nonneg _ | assumption | exact Nat.le_of_ble_eq_true (Eq.refl true) | decide))))); (conv => whnf)
        refine branchG_intro false (fun hc59 => ?_) (fun hc59 => ?_)
        · have hc52 := if_then (by first | assumption | exact Eq.refl _ | simp only [hc55, hc59, Bool.and_true, Bool.true_and, Bool.and_false, Bool.false_and, Bool.or_true, Bool.true_or, Bool.or_false, Bool.false_or, Bool.not_true, Bool.not_false, cond_true, cond_false, List.length_map]) hc52
          (conv => whnf)
          obtain rfl := some_eq hc52
          have hc54 := if_then (by first | assumption | exact Eq.refl _ | simp only [hc55, hc59, Bool.and_true, Bool.true_and, Bool.and_false, Bool.false_and, Bool.or_true, Bool.true_or, Bool.or_false, Bool.false_or, Bool.not_true, Bool.not_false, cond_true, cond_false, List.length_map]) hc54
          obtain rfl := some_eq hc54
          (repeat (first | ((conv => whnf); (with_reducible refine And.intro ?_ ?_); (focus (first | exact Eq.refl _ | exact trivial | exact Int.natCast_nonneg _ | assumption | exact Nat.le_of_ble_eq_true (Eq.refl true) | decide))))); (conv => whnf)
          exact Exists.intro (rn []) (WS.mk (wt_cons (wd_c (we_b (by first | exact Eq.refl _ | simp only [hc55, hc59, Bool.and_true, Bool.true_and, Bool.and_false, Bool.false_and, Bool.or_true, Bool.true_or, Bool.or_false, Bool.false_or, Bool.not_true, Bool.not_false, cond_true, cond_false, List.length_map]))) wt_nil) wb_nil)
        · have hc52 := if_else (by first | assumption | exact Eq.refl _ | simp only [hc55, hc59, Bool.and_true, Bool.true_and, Bool.and_false, Bool.false_and, Bool.or_true, Bool.true_or, Bool.or_false, Bool.false_or, Bool.not_true, Bool.not_false, cond_true, cond_false, List.length_map]) hc52
          obtain ⟨y51, hy510, hy51, hc52⟩ := bt_some hc52
          (conv => whnf)
          (repeat (first | ((conv => whnf); (with_reducible refine And.intro ?_ ?_); (focus (first | exact Eq.refl _ | exact trivial | exact Int.natCast_nonneg _ | assumption | exact Nat.le_of_ble_eq_true (Eq.refl true) | decide))) | ((conv => whnf); rw [hy51]))); (conv => whnf)
          obtain rfl := some_eq hc52
          (repeat (first | ((conv => whnf); (with_reducible refine And.intro ?_ ?_); (focus (first | exact Eq.refl _ | exact trivial | exact Int.natCast_nonneg _ | assumption | exact Nat.le_of_ble_eq_true (Eq.refl true) | decide))))); (conv => whnf)
          refine branchG_intro false (fun hc60 => ?_) (fun hc60 => ?_)
          · have hc54 := if_then (by first | assumption | exact Eq.refl _ | simp only [hc55, hc59, hc60, Bool.and_true, Bool.true_and, Bool.and_false, Bool.false_and, Bool.or_true, Bool.true_or, Bool.or_false, Bool.false_or, Bool.not_true, Bool.not_false, cond_true, cond_false, List.length_map]) hc54
            (conv => whnf)
            obtain rfl := some_eq hc54
            (repeat (first | ((conv => whnf); (with_reducible refine And.intro ?_ ?_); (focus (first | exact Eq.refl _ | exact trivial | exact Int.natCast_nonneg _ | assumption | exact Nat.le_of_ble_eq_true (Eq.refl true) | decide))))); (conv => whnf)
            exact Exists.intro (rn []) (WS.mk (wt_cons (wd_c (we_b (by first | exact Eq.refl _ | simp only [hc55, hc59, hc60, Bool.and_true, Bool.true_and, Bool.and_false, Bool.false_and, Bool.or_true, Bool.true_or, Bool.or_false, Bool.false_or, Bool.not_true, Bool.not_false, cond_true, cond_false, List.length_map]))) wt_nil) wb_nil)
          · have hc54 := if_else (by first | assumption | exact Eq.refl _ | simp only [hc55, hc59, hc60, Bool.and_true, Bool.true_and, Bool.and_false, Bool.false_and, Bool.or_true, Bool.true_or, Bool.or_false, Bool.false_or, Bool.not_true, Bool.not_false, cond_true, cond_false, List.length_map]) hc54
            obtain ⟨y53, hy530, hy53, hc54⟩ := bt_some hc54
            (conv => whnf)
            (repeat (first | ((conv => whnf); (with_reducible refine And.intro ?_ ?_); (focus (first | exact Eq.refl _ | exact trivial | exact Int.natCast_nonneg _ | assumption | exact Nat.le_of_ble_eq_true (Eq.refl true) | decide))) | ((conv => whnf); rw [hy53]))); (conv => whnf)
            obtain rfl := some_eq hc54
            (repeat (first | ((conv => whnf); (with_reducible refine And.intro ?_ ?_); (focus (first | exact Eq.refl _ | exact trivial | exact Int.natCast_nonneg _ | assumption | exact Nat.le_of_ble_eq_true (Eq.refl true) | decide))))); (conv => whnf)
            exact Exists.intro (rn []) (WS.mk (wt_cons (wd_c (we_b (by first | exact Eq.refl _ | simp only [hc55, hc59, hc60, Bool.and_true, Bool.true_and, Bool.and_false, Bool.false_and, Bool.or_true, Bool.true_or, Bool.or_false, Bool.false_or, Bool.not_true, Bool.not_false, cond_true, cond_false, List.length_map]))) wt_nil) wb_nil)
    obtain ⟨r0, hw⟩ := hw
    (conv => whnf)
    refine AWP.weak r0 hw ?_
    obtain rfl := some_eq hF
    refine nd (by decide) _ _ _ ?_
    (repeat (first | ((conv => whnf); (with_reducible refine And.intro ?_ ?_); (focus (first | exact Eq.refl _ | exact trivial | exact Int.natCast_nonneg _ | assumption | exact Nat.le_of_ble_eq_true (Eq.refl true) | decide))))); (conv => whnf)
    exact Exists.intro (rn []) (WS.mk (wt_cons (wd_c (WE.refl _)) wt_nil) wb_nil)
end Go.Proofs.YtafniolcakiljaaDoor

set_option linter.unusedVariables false
set_option linter.unusedSimpArgs false
set_option maxRecDepth 100000
set_option maxHeartbeats 4000000
namespace Go.Proofs.YtafniolcakiljaaDoor
open Go Go.Am
def lazycref25_ConName (s : ByteArray) : Option (Bool) :=
  if (((s.toList == (ByteArray.mk #[]).toList) || (decide (((s.size : Nat) : Int) > 129))) || (s.toList == (ByteArray.mk #[40]).toList)) = true then
  some false
  else
  lazycref25_ConName_l1 s 0
def lazycref25_ConName.M (s : ByteArray) (r : Bool) : Prop :=
  CallsX Tryd.prog 60 [.c none (.v (.string s))] [] (fun d b => d = .c none (.v (.bool r)) ∧ b = [])
theorem lazycref25_ConName_ok (s : ByteArray) (r : Bool) (hF : lazycref25_ConName s = some r) : lazycref25_ConName.M s r := by
  unfold lazycref25_ConName at hF
  unfold lazycref25_ConName.M
  refine enter tabOk Tryd.func60 rfl (by decide) (Nat.le_of_ble_eq_true rfl) rfl rfl rfl ?_
  refine AWP.seq ?_
  refine nd (by decide) _ _ _ ?_
  (repeat (first | ((conv => whnf); (with_reducible refine And.intro ?_ ?_); (focus (first | exact Eq.refl _ | exact trivial | exact Int.natCast_nonneg _ | assumption | exact Nat.le_of_ble_eq_true (Eq.refl true) | decide))))); (conv => whnf)
  refine AWP.seq ?_
  refine AWP.seq ?_
  refine AWP.cutN (fun T => ∃ r, WS r T ⟨[(0, .c none (.v (.string s))), (14, .c none (.v (.bool (((s.toList == (ByteArray.mk #[]).toList) || (decide (((s.size : Nat) : Int) > 129))) || (s.toList == (ByteArray.mk #[40]).toList)))))], []⟩) ?_ (fun T hw => ?_)
  · refine nd (by decide) _ _ _ ?_
    (repeat (first | ((conv => whnf); (with_reducible refine And.intro ?_ ?_); (focus (first | exact Eq.refl _ | exact trivial | exact Int.natCast_nonneg _ | assumption | exact Nat.le_of_ble_eq_true (Eq.refl true) | decide))))); (conv => whnf)
    refine branchG_intro false (fun hc2 => ?_) (fun hc2 => ?_)
    · (conv => whnf)
      (repeat (first | ((conv => whnf); (with_reducible refine And.intro ?_ ?_); (focus (first | exact Eq.refl _ | exact trivial | exact Int.natCast_nonneg _ | assumption | exact Nat.le_of_ble_eq_true (Eq.refl true) | decide))))); (conv => whnf)
      exact Exists.intro (rn []) (WS.mk (wt_cons (wd_c (WE.refl _)) (wt_cons (wd_c (we_b (by first | exact Eq.refl _ | simp only [hc2, Bool.and_true, Bool.true_and, Bool.and_false, Bool.false_and, Bool.or_true, Bool.true_or, Bool.or_false, Bool.false_or, Bool.not_true, Bool.not_false, cond_true, cond_false, List.length_map]))) wt_nil)) wb_nil)
    · (conv => whnf)
      (repeat (first | ((conv => whnf); (with_reducible refine And.intro ?_ ?_); (focus (first | exact Eq.refl _ | exact trivial | exact Int.natCast_nonneg _ | assumption | exact Nat.le_of_ble_eq_true (Eq.refl true) | decide))))); (conv => whnf)
      refine branchG_intro false (fun hc3 => ?_) (fun hc3 => ?_)
      · (conv => whnf)
        (repeat (first | ((conv => whnf); (with_reducible refine And.intro ?_ ?_); (focus (first | exact Eq.refl _ | exact trivial | exact Int.natCast_nonneg _ | assumption | exact Nat.le_of_ble_eq_true (Eq.refl true) | decide))))); (conv => whnf)
        exact Exists.intro (rn []) (WS.mk (wt_cons (wd_c (WE.refl _)) (wt_cons (wd_c (we_b (by first | exact Eq.refl _ | simp only [hc2, hc3, Bool.and_true, Bool.true_and, Bool.and_false, Bool.false_and, Bool.or_true, Bool.true_or, Bool.or_false, Bool.false_or, Bool.not_true, Bool.not_false, cond_true, cond_false, List.length_map]))) wt_nil)) wb_nil)
      · (conv => whnf)
        (repeat (first | ((conv => whnf); (with_reducible refine And.intro ?_ ?_); (focus (first | exact Eq.refl _ | exact trivial | exact Int.natCast_nonneg _ | assumption | exact Nat.le_of_ble_eq_true (Eq.refl true) | decide))))); (conv => whnf)
        exact Exists.intro (rn []) (WS.mk (wt_cons (wd_c (WE.refl _)) (wt_cons (wd_c (we_b (by first | exact Eq.refl _ | simp only [hc2, hc3, Bool.and_true, Bool.true_and, Bool.and_false, Bool.false_and, Bool.or_true, Bool.true_or, Bool.or_false, Bool.false_or, Bool.not_true, Bool.not_false, cond_true, cond_false, List.length_map]))) wt_nil)) wb_nil)
  obtain ⟨r0, hw⟩ := hw
  (conv => whnf)
  refine AWP.weak r0 hw ?_
  refine nd (by decide) _ _ _ ?_
  (conv => whnf)
  refine branch_hF hF (fun hc4 hF => ?_) (fun hc4 hF => ?_)
  · refine AWP.seq ?_
    refine nd (by decide) _ _ _ ?_
    (repeat (first | ((conv => whnf); (with_reducible refine And.intro ?_ ?_); (focus (first | exact Eq.refl _ | exact trivial | exact Int.natCast_nonneg _ | assumption | exact Nat.le_of_ble_eq_true (Eq.refl true) | decide))))); (conv => whnf)
    obtain rfl := some_eq hF
    refine nd (by decide) _ _ _ ?_
    (repeat (first | ((conv => whnf); (with_reducible refine And.intro ?_ ?_); (focus (first | exact Eq.refl _ | exact trivial | exact Int.natCast_nonneg _ | assumption | exact Nat.le_of_ble_eq_true (Eq.refl true) | decide))))); (conv => whnf)
    exact Exists.intro (rn []) (WS.mk (wt_cons (wd_c (WE.refl _)) wt_nil) wb_nil)
  · refine nd (by decide) _ _ _ ?_
    (conv => whnf)
    refine AWP.seq ?_
    refine AWP.seq ?_
    refine nd (by decide) _ _ _ ?_
    (repeat (first | ((conv => whnf); (with_reducible refine And.intro ?_ ?_); (focus (first | exact Eq.refl _ | exact trivial | exact Int.natCast_nonneg _ | assumption | exact Nat.le_of_ble_eq_true (Eq.refl true) | decide))))); (conv => whnf)
    refine AWP.block ?_
    refine AWP.loop ?_
    refine AWL.weak (rn []) ?_ (lazycref25_ConName_l1_ok s 0 _ hF)
    exact (WS.mk (wt_cons (wd_c (WE.refl _)) (wt_cons (wd_c (WE.refl _)) wt_nil)) wb_nil)
end Go.Proofs.YtafniolcakiljaaDoor

set_option linter.unusedVariables false
set_option linter.unusedSimpArgs false
set_option maxRecDepth 100000
set_option maxHeartbeats 4000000
namespace Go.Proofs.YtafniolcakiljaaDoor
open Go Go.Am
def lazycref25_less (a : TExc) (b : TExc) : Option (Bool) :=
  some ((Op.bytesLess a.fCon.toList b.fCon.toList) || ((a.fCon.toList == b.fCon.toList) && (decide (a.fN < b.fN))))
def lazycref25_less.M (a : TExc) (b : TExc) (r : Bool) : Prop :=
  CallsX Tryd.prog 67 [.agg [.v (.string a.fCon), .v (.int .i64 a.fN)], .agg [.v (.string b.fCon), .v (.int .i64 b.fN)]] [] (fun d b => d = .c none (.v (.bool r)) ∧ b = [])
theorem lazycref25_less_ok (a : TExc) (b : TExc) (r : Bool) (hF : lazycref25_less a b = some r) : lazycref25_less.M a b r := by
  unfold lazycref25_less at hF
  unfold lazycref25_less.M
  refine enter tabOk Tryd.func67 rfl (by decide) (Nat.le_of_ble_eq_true rfl) rfl rfl rfl ?_
  refine AWP.seq ?_
  refine nd (by decide) _ _ _ ?_
  (repeat (first | ((conv => whnf); (with_reducible refine And.intro ?_ ?_); (focus (first | exact Eq.refl _ | exact trivial | exact Int.natCast_nonneg _ | assumption | exact Nat.le_of_ble_eq_true (Eq.refl true) | decide))))); (conv => whnf)
  refine AWP.seq ?_
  refine AWP.cutN (fun T => ∃ r, WS r T ⟨[(4, .c none (.v (.bool ((Op.bytesLess a.fCon.toList b.fCon.toList) || ((a.fCon.toList == b.fCon.toList) && (decide (a.fN < b.fN)))))))], []⟩) ?_ (fun T hw => ?_)
  · refine nd (by decide) _ _ _ ?_
    (repeat (first | ((conv => whnf); (with_reducible refine And.intro ?_ ?_); (focus (first | exact Eq.refl _ | exact trivial | exact Int.natCast_nonneg _ | assumption | exact Nat.le_of_ble_eq_true (Eq.refl true) | decide))))); (conv => whnf)
    refine branchG_intro false (fun hc1 => ?_) (fun hc1 => ?_)
    · (conv => whnf)
      (repeat (first | ((conv => whnf); (with_reducible refine And.intro ?_ ?_); (focus (first | exact Eq.refl _ | exact trivial | exact Int.natCast_nonneg _ | assumption | exact Nat.le_of_ble_eq_true (Eq.refl true) | decide))))); (conv => whnf)
      exact Exists.intro (rn []) (WS.mk (wt_cons (wd_c (we_b (by first | exact Eq.refl _ | simp only [hc1, Bool.and_true, Bool.true_and, Bool.and_false, Bool.false_and, Bool.or_true, Bool.true_or, Bool.or_false, Bool.false_or, Bool.not_true, Bool.not_false, cond_true, cond_false, List.length_map]))) wt_nil) wb_nil)
    · (conv => whnf)
      (repeat (first | ((conv => whnf); (with_reducible refine And.intro ?_ ?_); (focus (first | exact Eq.refl _ | exact trivial | exact Int.natCast_nonneg _ | assumption | exact Nat.le_of_ble_eq_true (Eq.refl true) | decide))))); (conv => whnf)
      refine branchG_intro true (fun hc2 => ?_) (fun hc2 => ?_)
      · (conv => whnf)
        (repeat (first | ((conv => whnf); (with_reducible refine And.intro ?_ ?_); (focus (first | exact Eq.refl _ | exact trivial | exact Int.natCast_nonneg _ | assumption | exact Nat.le_of_ble_eq_true (Eq.refl true) | decide))))); (conv => whnf)
        exact Exists.intro (rn []) (WS.mk (wt_cons (wd_c (we_b (by first | exact Eq.refl _ | simp only [hc1, hc2, Bool.and_true, Bool.true_and, Bool.and_false, Bool.false_and, Bool.or_true, Bool.true_or, Bool.or_false, Bool.false_or, Bool.not_true, Bool.not_false, cond_true, cond_false, List.length_map]))) wt_nil) wb_nil)
      · (conv => whnf)
        (repeat (first | ((conv => whnf); (with_reducible refine And.intro ?_ ?_); (focus (first | exact Eq.refl _ | exact trivial | exact Int.natCast_nonneg _ | assumption | exact Nat.le_of_ble_eq_true (Eq.refl true) | decide))))); (conv => whnf)
        exact Exists.intro (rn []) (WS.mk (wt_cons (wd_c (we_b (by first | exact Eq.refl _ | simp only [hc1, hc2, Bool.and_true, Bool.true_and, Bool.and_false, Bool.false_and, Bool.or_true, Bool.true_or, Bool.or_false, Bool.false_or, Bool.not_true, Bool.not_false, cond_true, cond_false, List.length_map]))) wt_nil) wb_nil)
  obtain ⟨r0, hw⟩ := hw
  (conv => whnf)
  refine AWP.weak r0 hw ?_
  obtain rfl := some_eq hF
  refine nd (by decide) _ _ _ ?_
  (repeat (first | ((conv => whnf); (with_reducible refine And.intro ?_ ?_); (focus (first | exact Eq.refl _ | exact trivial | exact Int.natCast_nonneg _ | assumption | exact Nat.le_of_ble_eq_true (Eq.refl true) | decide))))); (conv => whnf)
  exact Exists.intro (rn []) (WS.mk (wt_cons (wd_c (WE.refl _)) wt_nil) wb_nil)
end Go.Proofs.YtafniolcakiljaaDoor

set_option linter.unusedVariables false
set_option linter.unusedSimpArgs false
set_option maxRecDepth 100000
set_option maxHeartbeats 4000000
namespace Go.Proofs.YtafniolcakiljaaDoor
open Go Go.Am
def lazycref25_validSet_l1 (i_3 : Nat) (s : TExcSet) (i_3_s_ : (List TExc)) : Option (Bool) :=
  (match i_3_s_ with
  | x58 :: xs59 =>
  lazycref25_ConName x58.fCon >>= fun r61 =>
  (if (!r61) = true then some true else (if (decide (((i_3 : Nat) : Int) > 0)) = true then (ixI s.fList (IntKind.i64.wrap (((i_3 : Nat) : Int) - 1))) >>= fun x62 =>
  lazycref25_less x62 x58 >>= fun r63 =>
  some (!r63) else some false) >>= fun c64 =>
  some c64) >>= fun c65 =>
  if c65 = true then
  some false
  else
  lazycref25_validSet_l1 (i_3 + 1) s xs59
  | [] =>
  some (decide (((s.fList.length : Nat) : Int) ≤ 16)))
  partial_fixpoint
def lazycref25_validSet_l1.M (i_3 : Nat) (s : TExcSet) (i_3_s_ : (List TExc)) (r : Bool) : Prop :=
  ∀ pre_i_3 : List TExc, s.fList = pre_i_3 ++ i_3_s_ → i_3 = pre_i_3.length → AWL Tryd.prog 48 (Code.sub (bodyOf Tryd.f61) [1, 1, 0, 1, 0, 0]) (Code.cont Tryd.prog 48 (bodyOf Tryd.f61) [1, 1, 0, 1, 0] (endK tab Tryd.f61.results [] (WRes (.c none (.v (.bool r))) []))) ⟨[(1, .ptr 1 0), (3, .c none (.v (.int .i64 ((i_3 : Nat) : Int))))], [(1, [(none, .v (.bool s.fAll)), (none, .sl (s.fList.map TExc.cells))])]⟩
theorem lazycref25_validSet_l1_ok (i_3 : Nat) (s : TExcSet) (i_3_s_ : (List TExc)) : ∀ r, lazycref25_validSet_l1 i_3 s i_3_s_ = some r → lazycref25_validSet_l1.M i_3 s i_3_s_ r := by
  refine lazycref25_validSet_l1.partial_correctness s (fun i_3 i_3_s_ r => lazycref25_validSet_l1.M i_3 s i_3_s_ r) ?_ i_3 i_3_s_
  intro lazycref25_validSet_l1' ih0_lazycref25_validSet_l1 i_3 i_3_s_ r hF
  have ih_lazycref25_validSet_l1 := fun (i_3 : Nat) (_s : TExcSet) (i_3_s_ : (List TExc)) => ih0_lazycref25_validSet_l1 i_3 i_3_s_
  clear ih0_lazycref25_validSet_l1
  unfold lazycref25_validSet_l1.M
  intro pre_i_3 hs_i_3 hk_i_3
  refine AWL.step ?_
  refine AWP.seq ?_
  refine AWP.seq ?_
  refine nd (by decide) _ _ _ ?_
  (repeat (first | ((conv => whnf); (with_reducible refine And.intro ?_ ?_); (focus (first | exact Eq.refl _ | exact trivial | exact Int.natCast_nonneg _ | assumption | exact Nat.le_of_ble_eq_true (Eq.refl true) | decide))))); (conv => whnf)
  intro hlen57
  (try rw [List.length_map] at hlen57)
  (try rw [List.length_map])
  (repeat (first | ((conv => whnf); (with_reducible refine And.intro ?_ ?_); (focus (first | exact Eq.refl _ | exact trivial | exact Int.natCast_nonneg _ | assumption | exact Nat.le_of_ble_eq_true (Eq.refl true) | decide))))); (conv => whnf)
  refine nd (by decide) _ _ _ ?_
  (conv => whnf)
  refine branch_list hs_i_3 hk_i_3 (fun x58 xs59 hp60 hx60 hl60 => ?_) (fun hp60 => ?_)
  · subst hp60
    refine nd (by decide) _ _ _ ?_
    (conv => whnf)
    refine AWP.seq ?_
    refine AWP.block ?_
    refine AWP.seq ?_
    obtain ⟨r61, hr61, hF⟩ := bind_some hF
    obtain ⟨c65, hc65, hF⟩ := bind_some hF
    refine AWP.cutN (fun T => ∃ r, WS r T ⟨[(1, .ptr 1 0), (3, .c none (.v (.int .i64 ((i_3 : Nat) : Int)))), (43, .c none (.v (.bool c65)))], [(1, [(none, .v (.bool s.fAll)), (none, .sl (s.fList.map TExc.cells))])]⟩) ?_ (fun T hw => ?_)
    · refine nd (by decide) _ _ _ ?_
      refine Exists.intro 23 (Exists.intro [[17, 18, 19, 20, 21, 22, 23, 24, 25, 26, 27, 28, 29, 30, 31, 32, 33, 34, 35, 36, 37, 38, 39], [18, 19, 20, 21, 22, 23, 24, 25, 26, 27, 28, 29, 30, 31, 32, 33, 34, 35, 36, 37, 38, 39], [17, 18, 19, 20, 21, 22, 23, 24, 25, 26, 27, 28, 29, 30, 31, 32, 33, 34, 35, 36, 37, 38, 39], [20, 21, 22, 23, 24, 25, 26, 27, 28, 29, 30, 31, 32, 33, 34, 35, 36, 37, 38, 39], [21, 22, 23, 24, 25, 26, 27, 28, 29, 30, 31, 32, 33, 34, 35, 36, 37, 38, 39], [22, 23, 24, 25, 26, 27, 28, 29, 30, 31, 32, 33, 34, 35, 36, 37, 38, 39], [23, 24, 25, 26, 27, 28, 29, 30, 31, 32, 33, 34, 35, 36, 37, 38, 39], [24, 25, 26, 27, 28, 29, 30, 31, 32, 33, 34, 35, 36, 37, 38, 39], [25, 26, 27, 28, 29, 30, 31, 32, 33, 34, 35, 36, 37, 38, 39], [26, 27, 28, 29, 30, 31, 32, 33, 34, 35, 36, 37, 38, 39], [27, 28, 29, 30, 31, 32, 33, 34, 35, 36, 37, 38, 39], [28, 29, 30, 31, 32, 33, 34, 35, 36, 37, 38, 39], [29, 30, 31, 32, 33, 34, 35, 36, 37, 38, 39], [30, 31, 32, 33, 34, 35, 36, 37, 38, 39], [29, 30, 31, 32, 33, 34, 35, 36, 37, 38, 39], [29, 30, 32, 33, 34, 35, 36, 37, 38, 39], [33, 34, 35, 36, 37, 38, 39], [34, 35, 36, 37, 38, 39], [29, 30, 31, 32, 33, 34, 35, 36, 37, 38, 39], [29, 30, 31, 32, 33, 34, 36, 37, 38, 39], [29, 30, 31, 32, 33, 34, 35, 36, 37, 38, 39], [29, 30, 31, 32, 33, 34, 38, 39], [29, 30, 31, 32, 33, 34, 39]] (Exists.intro [17, 18, 19, 20, 21, 22, 23, 24, 25, 26, 27, 28, 29, 30, 31, 32, 33, 34, 35, 36, 37, 38, 39] (And.intro (by decide +kernel) ?_)))
      ((repeat (first | ((conv => whnf); (with_reducible refine And.intro ?_ ?_); (focus (first | exact Eq.refl _ | exact trivial | exact Int.natCast_nonneg _ | assumption | exact Nat.le_of_ble_eq_true (Eq.refl true) | decide))))); (conv => whnf); apply Exists.intro; apply Exists.intro; apply And.intro; (focus (((repeat (first | ((conv => whnf); (with_reducible refine And.intro ?_ ?_); (focus (first | exact Eq.refl _ | exact trivial | exact Int.natCast_nonneg _ | assumption | exact Nat.le_of_ble_eq_true (Eq.refl true) | decide))))); (conv => whnf)) <;> (exact rfl))); apply And.intro; (focus exact rfl); (conv => whnf))
      ((repeat (first | ((conv => whnf); (with_reducible refine And.intro ?_ ?_); (focus (first | exact Eq.refl _ | exact trivial | exact Int.natCast_nonneg _ | assumption | exact Nat.le_of_ble_eq_true (Eq.refl true) | decide))))); (conv => whnf); apply Exists.intro; apply Exists.intro; apply And.intro; (focus (((repeat (first | ((conv => whnf); (with_reducible refine And.intro ?_ ?_); (focus (first | exact Eq.refl _ | exact trivial | exact Int.natCast_nonneg _ | assumption | exact Nat.le_of_ble_eq_true (Eq.refl true) | decide))))); (conv => whnf)) <;> (exact rfl))); apply And.intro; (focus exact rfl); (conv => whnf))
      ((repeat (first | ((conv => whnf); (with_reducible refine And.intro ?_ ?_); (focus (first | exact Eq.refl _ | exact trivial | exact Int.natCast_nonneg _ | assumption | exact Nat.le_of_ble_eq_true (Eq.refl true) | decide))))); (conv => whnf); apply Exists.intro; apply Exists.intro; apply And.intro; (focus (((repeat (first | ((conv => whnf); (with_reducible refine And.intro ?_ ?_); (focus (first | exact Eq.refl _ | exact trivial | exact Int.natCast_nonneg _ | assumption | exact Nat.le_of_ble_eq_true (Eq.refl true) | decide))))); (conv => whnf)) <;> (exact rfl))); apply And.intro; (focus exact rfl); (conv => whnf))
      ((repeat (first | ((conv => whnf); (with_reducible refine And.intro ?_ ?_); (focus (first | exact Eq.refl _ | exact trivial | exact Int.natCast_nonneg _ | assumption | exact Nat.le_of_ble_eq_true (Eq.refl true) | decide))))); (conv => whnf); apply Exists.intro; apply Exists.intro; apply And.intro; (focus (((repeat (first | ((conv => whnf); (with_reducible refine And.intro ?_ ?_); (focus (first | exact Eq.refl _ | exact trivial | exact Int.natCast_nonneg _ | assumption | exact Nat.le_of_ble_eq_true (Eq.refl true) | decide))))); (conv => whnf)) <;> (rw [map_get (TExc.cells_eq x58) hx60]) <;> ((repeat (first | ((conv => whnf); (with_reducible refine And.intro ?_ ?_); (focus (first | exact Eq.refl _ | exact trivial | exact Int.natCast_nonneg _ | assumption | exact Nat.le_of_ble_eq_true (Eq.refl true) | decide))))); (conv => whnf)) <;> (exact rfl))); apply And.intro; (focus exact rfl); (conv => whnf))
      ((repeat (first | ((conv => whnf); (with_reducible refine And.intro ?_ ?_); (focus (first | exact Eq.refl _ | exact trivial | exact Int.natCast_nonneg _ | assumption | exact Nat.le_of_ble_eq_true (Eq.refl true) | decide))))); (conv => whnf); apply Exists.intro; apply Exists.intro; apply And.intro; (focus (((repeat (first | ((conv => whnf); (with_reducible refine And.intro ?_ ?_); (focus (first | exact Eq.refl _ | exact trivial | exact Int.natCast_nonneg _ | assumption | exact Nat.le_of_ble_eq_true (Eq.refl true) | decide))))); (conv => whnf)) <;> (exact rfl))); apply And.intro; (focus exact rfl); (conv => whnf))
      ((repeat (first | ((conv => whnf); (with_reducible refine And.intro ?_ ?_); (focus (first | exact Eq.refl _ | exact trivial | exact Int.natCast_nonneg _ | assumption | exact Nat.le_of_ble_eq_true (Eq.refl true) | decide))))); (conv => whnf); apply Exists.intro; apply Exists.intro; apply And.intro; (focus (((repeat (first | ((conv => whnf); (with_reducible refine And.intro ?_ ?_); (focus (first | exact Eq.refl _ | exact trivial | exact Int.natCast_nonneg _ | assumption | exact Nat.le_of_ble_eq_true (Eq.refl true) | decide))))); (conv => whnf)) <;> (exact rfl))); apply And.intro; (focus exact rfl); (conv => whnf))
      ((repeat (first | ((conv => whnf); (with_reducible refine And.intro ?_ ?_); (focus (first | exact Eq.refl _ | exact trivial | exact Int.natCast_nonneg _ | assumption | exact Nat.le_of_ble_eq_true (Eq.refl true) | decide))))); (conv => whnf); apply Exists.intro; apply Exists.intro; apply And.intro; (focus (refine And.intro rfl (And.intro rfl (And.intro rfl ?_)); refine CallsX.mono (CallsX.weak (rn []) (lazycref25_ConName_ok x58.fCon _ hr61) rfl (WS.mk (wt_cons (wd_c (WE.refl _)) wt_nil) wb_nil)) ?_; rintro r bx ⟨rfl, rfl⟩; exact rfl)); apply And.intro; (focus exact rfl); (conv => whnf))
      ((repeat (first | ((conv => whnf); (with_reducible refine And.intro ?_ ?_); (focus (first | exact Eq.refl _ | exact trivial | exact Int.natCast_nonneg _ | assumption | exact Nat.le_of_ble_eq_true (Eq.refl true) | decide))))); (conv => whnf); apply Exists.intro; apply Exists.intro; apply And.intro; (focus (((repeat (first | ((conv => whnf); (with_reducible refine And.intro ?_ ?_); (focus (first | exact Eq.refl _ | exact trivial | exact Int.natCast_nonneg _ | assumption | exact Nat.le_of_ble_eq_true (Eq.refl true) | decide))))); (conv => whnf)) <;> (exact rfl))); apply And.intro; (focus exact rfl); (conv => whnf))
      ((repeat (first | ((conv => whnf); (with_reducible refine And.intro ?_ ?_); (focus (first | exact Eq.refl _ | exact trivial | exact Int.natCast_nonneg _ | assumption | exact Nat.le_of_ble_eq_true (Eq.refl true) | decide))))); (conv => whnf); apply Exists.intro; apply Exists.intro; apply And.intro; (focus (((repeat (first | ((conv => whnf); (with_reducible refine And.intro ?_ ?_); (focus (first | exact Eq.refl _ | exact trivial | exact Int.natCast_nonneg _ | assumption | exact Nat.le_of_ble_eq_true (Eq.refl true) | decide))))); (conv => whnf)) <;> (exact rfl))); apply And.intro; (focus exact rfl); (conv => whnf))
      (repeat (first | ((conv => whnf); (with_reducible refine And.intro ?_ ?_); (focus (first | exact Eq.refl _ | exact trivial | exact Int.natCast_nonneg _ | assumption | exact Nat.le_of_ble_eq_true (Eq.refl true) | decide))))); (conv => whnf)
      refine branchG_intro false (fun hc66 => ?_) (fun hc66 => ?_)
      · have hc65 := if_then (by first | assumption | exact Eq.refl _ | simp only [hc66, Bool.and_true, Bool.true_and, Bool.and_false, Bool.false_and, Bool.or_true, Bool.true_or, Bool.or_false, Bool.false_or, Bool.not_true, Bool.not_false, cond_true, cond_false, List.length_map]) hc65
        (conv => whnf)
        obtain rfl := some_eq hc65
        (repeat (first | ((conv => whnf); (with_reducible refine And.intro ?_ ?_); (focus (first | exact Eq.refl _ | exact trivial | exact Int.natCast_nonneg _ | assumption | exact Nat.le_of_ble_eq_true (Eq.refl true) | decide))))); (conv => whnf)
        exact Exists.intro (rn []) (WS.mk (wt_cons wd_ptr (wt_cons (wd_c (WE.refl _)) (wt_cons (wd_c (we_b (by first | exact Eq.refl _ | simp only [hc66, Bool.and_true, Bool.true_and, Bool.and_false, Bool.false_and, Bool.or_true, Bool.true_or, Bool.or_false, Bool.false_or, Bool.not_true, Bool.not_false, cond_true, cond_false, List.length_map]))) wt_nil))) (wb_cons rfl (wc_c (WE.refl _) (wc_c (WE.refl _) wc_nil)) wb_nil))
      · have hc65 := if_else (by first | assumption | exact Eq.refl _ | simp only [hc66, Bool.and_true, Bool.true_and, Bool.and_false, Bool.false_and, Bool.or_true, Bool.true_or, Bool.or_false, Bool.false_or, Bool.not_true, Bool.not_false, cond_true, cond_false, List.length_map]) hc65
        obtain ⟨c64, hc64, hc65⟩ := bind_some hc65
        (conv => whnf)
        ((repeat (first | ((conv => whnf); (with_reducible refine And.intro ?_ ?_); (focus (first | exact Eq.refl _ | exact trivial | exact Int.natCast_nonneg _ | assumption | exact Nat.le_of_ble_eq_true (Eq.refl true) | decide))))); (conv => whnf); apply Exists.intro; apply Exists.intro; apply And.intro; (focus (((repeat (first | ((conv => whnf); (with_reducible refine And.intro ?_ ?_); (focus (first | exact Eq.refl _ | exact trivial | exact Int.natCast_nonneg _ | assumption | exact Nat.le_of_ble_eq_true (Eq.refl true) | decide))))); (conv => whnf)) <;> (exact rfl))); apply And.intro; (focus exact rfl); (conv => whnf))
        ((repeat (first | ((conv => whnf); (with_reducible refine And.intro ?_ ?_); (focus (first | exact Eq.refl _ | exact trivial | exact Int.natCast_nonneg _ | assumption | exact Nat.le_of_ble_eq_true (Eq.refl true) | decide))))); (conv => whnf); apply Exists.intro; apply Exists.intro; apply And.intro; (focus (((repeat (first | ((conv => whnf); (with_reducible refine And.intro ?_ ?_); (focus (first | exact Eq.refl _ | exact trivial | exact Int.natCast_nonneg _ | assumption | exact Nat.le_of_ble_eq_true (Eq.refl true) | decide))))); (conv => whnf)) <;> (exact rfl))); apply And.intro; (focus exact rfl); (conv => whnf))
        ((repeat (first | ((conv => whnf); (with_reducible refine And.intro ?_ ?_); (focus (first | exact Eq.refl _ | exact trivial | exact Int.natCast_nonneg _ | assumption | exact Nat.le_of_ble_eq_true (Eq.refl true) | decide))))); (conv => whnf); apply Exists.intro; apply Exists.intro; apply And.intro; (focus (((repeat (first | ((conv => whnf); (with_reducible refine And.intro ?_ ?_); (focus (first | exact Eq.refl _ | exact trivial | exact Int.natCast_nonneg _ | assumption | exact Nat.le_of_ble_eq_true (Eq.refl true) | decide))))); (conv => whnf)) <;> (exact rfl))); apply And.intro; (focus exact rfl); (conv => whnf))
        (repeat (first | ((conv => whnf); (with_reducible refine And.intro ?_ ?_); (focus (first | exact Eq.refl _ | exact trivial | exact Int.natCast_nonneg _ | assumption | exact Nat.le_of_ble_eq_true (Eq.refl true) | decide))))); (conv => whnf)
        refine branchG_intro true (fun hc67 => ?_) (fun hc67 => ?_)
        · have hc64 := if_then (by first | assumption | exact Eq.refl _ | simp only [hc66, hc67, Bool.and_true, Bool.true_and, Bool.and_false, Bool.false_and, Bool.or_true, Bool.true_or, Bool.or_false, Bool.false_or, Bool.not_true, Bool.not_false, cond_true, cond_false, List.length_map]) hc64
          obtain ⟨x62, hx620, hx62, hc64⟩ := ix_some hc64
          obtain ⟨r63, hr63, hc64⟩ := bind_some hc64
          (conv => whnf)
          ((repeat (first | ((conv => whnf); (with_reducible refine And.intro ?_ ?_); (focus (first | exact Eq.refl _ | exact trivial | exact Int.natCast_nonneg _ | assumption | exact Nat.le_of_ble_eq_true (Eq.refl true) | decide))))); (conv => whnf); apply Exists.intro; apply Exists.intro; apply And.intro; (focus (((repeat (first | ((conv => whnf); (with_reducible refine And.intro ?_ ?_); (focus (first | exact Eq.refl _ | exact trivial | exact Int.natCast_nonneg _ | assumption | exact Nat.le_of_ble_eq_true (Eq.refl true) | decide))))); (conv => whnf)) <;> (exact rfl))); apply And.intro; (focus exact rfl); (conv => whnf))
          ((repeat (first | ((conv => whnf); (with_reducible refine And.intro ?_ ?_); (focus (first | exact Eq.refl _ | exact trivial | exact Int.natCast_nonneg _ | assumption | exact Nat.le_of_ble_eq_true (Eq.refl true) | decide))))); (conv => whnf); apply Exists.intro; apply Exists.intro; apply And.intro; (focus (((repeat (first | ((conv => whnf); (with_reducible refine And.intro ?_ ?_); (focus (first | exact Eq.refl _ | exact trivial | exact Int.natCast_nonneg _ | assumption | exact Nat.le_of_ble_eq_true (Eq.refl true) | decide))))); (conv => whnf)) <;> (exact rfl))); apply And.intro; (focus exact rfl); (conv => whnf))
          ((repeat (first | ((conv => whnf); (with_reducible refine And.intro ?_ ?_); (focus (first | exact Eq.refl _ | exact trivial | exact Int.natCast_nonneg _ | assumption | exact Nat.le_of_ble_eq_true (Eq.refl true) | decide))))); (conv => whnf); apply Exists.intro; apply Exists.intro; apply And.intro; (focus (((repeat (first | ((conv => whnf); (with_reducible refine And.intro ?_ ?_); (focus (first | exact Eq.refl _ | exact trivial | exact Int.natCast_nonneg _ | assumption | exact Nat.le_of_ble_eq_true (Eq.refl true) | decide))))); (conv => whnf)) <;> (exact rfl))); apply And.intro; (focus exact rfl); (conv => whnf))
          ((repeat (first | ((conv => whnf); (with_reducible refine And.intro ?_ ?_); (focus (first | exact Eq.refl _ | exact trivial | exact Int.natCast_nonneg _ | assumption | exact Nat.le_of_ble_eq_true (Eq.refl true) | decide))))); (conv => whnf); apply Exists.intro; apply Exists.intro; apply And.intro; (focus (((repeat (first | ((conv => whnf); (with_reducible refine And.intro ?_ ?_); (focus (first | exact Eq.refl _ | exact trivial | exact Int.natCast_nonneg _ | assumption | exact Nat.le_of_ble_eq_true (Eq.refl true) | decide))))); (conv => whnf)) <;> (exact rfl))); apply And.intro; (focus exact rfl); (conv => whnf))
          ((repeat (first | ((conv => whnf); (with_reducible refine And.intro ?_ ?_); (focus (first | exact Eq.refl _ | exact trivial | exact Int.natCast_nonneg _ | assumption | exact Nat.le_of_ble_eq_true (Eq.refl true) | decide))))); (conv => whnf); apply Exists.intro; apply Exists.intro; apply And.intro; (focus (((repeat (first | ((conv => whnf); (with_reducible refine And.intro ?_ ?_); (focus (first | exact Eq.refl _ | exact trivial | exact Int.natCast_nonneg _ | assumption | exact Nat.le_of_ble_eq_true (Eq.refl true) | decide))))); (conv => whnf)) <;> (rw [map_getI (TExc.cells_eq x62) hx62]) <;> ((repeat (first | ((conv => whnf); (with_reducible refine And.intro ?_ ?_); (focus (first | exact Eq.refl _ | exact trivial | exact Int.natCast_nonneg _ | assumption | exact Nat.le_of_ble_eq_true (Eq.refl true) | decide))))); (conv => whnf)) <;> (exact rfl))); apply And.intro; (focus exact rfl); (conv => whnf))
          ((repeat (first | ((conv => whnf); (with_reducible refine And.intro ?_ ?_); (focus (first | exact Eq.refl _ | exact trivial | exact Int.natCast_nonneg _ | assumption | exact Nat.le_of_ble_eq_true (Eq.refl true) | decide))))); (conv => whnf); apply Exists.intro; apply Exists.intro; apply And.intro; (focus (((repeat (first | ((conv => whnf); (with_reducible refine And.intro ?_ ?_); (focus (first | exact Eq.refl _ | exact trivial | exact Int.natCast_nonneg _ | assumption | exact Nat.le_of_ble_eq_true (Eq.refl true) | decide))))); (conv => whnf)) <;> (exact rfl))); apply And.intro; (focus exact rfl); (conv => whnf))
          ((repeat (first | ((conv => whnf); (with_reducible refine And.intro ?_ ?_); (focus (first | exact Eq.refl _ | exact trivial | exact Int.natCast_nonneg _ | assumption | exact Nat.le_of_ble_eq_true (Eq.refl true) | decide))))); (conv => whnf); apply Exists.intro; apply Exists.intro; apply And.intro; (focus (((repeat (first | ((conv => whnf); (with_reducible refine And.intro ?_ ?_); (focus (first | exact Eq.refl _ | exact trivial | exact Int.natCast_nonneg _ | assumption | exact Nat.le_of_ble_eq_true (Eq.refl true) | decide))))); (conv => whnf)) <;> (exact rfl))); apply And.intro; (focus exact rfl); (conv => whnf))
          ((repeat (first | ((conv => whnf); (with_reducible refine And.intro ?_ ?_); (focus (first | exact Eq.refl _ | exact trivial | exact Int.natCast_nonneg _ | assumption | exact Nat.le_of_ble_eq_true (Eq.refl true) | decide))))); (conv => whnf); apply Exists.intro; apply Exists.intro; apply And.intro; (focus (((repeat (first | ((conv => whnf); (with_reducible refine And.intro ?_ ?_); (focus (first | exact Eq.refl _ | exact trivial | exact Int.natCast_nonneg _ | assumption | exact Nat.le_of_ble_eq_true (Eq.refl true) | decide))))); (conv => whnf)) <;> (exact rfl))); apply And.intro; (focus exact rfl); (conv => whnf))
          ((repeat (first | ((conv => whnf); (with_reducible refine And.intro ?_ ?_); (focus (first | exact Eq.refl _ | exact trivial | exact Int.natCast_nonneg _ | assumption | exact Nat.le_of_ble_eq_true (Eq.refl true) | decide))))); (conv => whnf); apply Exists.intro; apply Exists.intro; apply And.intro; (focus (((repeat (first | ((conv => whnf); (with_reducible refine And.intro ?_ ?_); (focus (first | exact Eq.refl _ | exact trivial | exact Int.natCast_nonneg _ | assumption | exact Nat.le_of_ble_eq_true (Eq.refl true) | decide))))); (conv => whnf)) <;> (exact rfl))); apply And.intro; (focus exact rfl); (conv => whnf))
          ((repeat (first | ((conv => whnf); (with_reducible refine And.intro ?_ ?_); (focus (first | exact Eq.refl _ | exact trivial | exact Int.natCast_nonneg _ | assumption | exact Nat.le_of_ble_eq_true (Eq.refl true) | decide))))); (conv => whnf); apply Exists.intro; apply Exists.intro; apply And.intro; (focus (((repeat (first | ((conv => whnf); (with_reducible refine And.intro ?_ ?_); (focus (first | exact Eq.refl _ | exact trivial | exact Int.natCast_nonneg _ | assumption | exact Nat.le_of_ble_eq_true (Eq.refl true) | decide))))); (conv => whnf)) <;> (rw [map_get (TExc.cells_eq x58) hx60]) <;> ((repeat (first | ((conv => whnf); (with_reducible refine And.intro ?_ ?_); (focus (first | exact Eq.refl _ | exact trivial | exact Int.natCast_nonneg _ | assumption | exact Nat.le_of_ble_eq_true (Eq.refl true) | decide))))); (conv => whnf)) <;> (exact rfl))); apply And.intro; (focus exact rfl); (conv => whnf))
          ((repeat (first | ((conv => whnf); (with_reducible refine And.intro ?_ ?_); (focus (first | exact Eq.refl _ | exact trivial | exact Int.natCast_nonneg _ | assumption | exact Nat.le_of_ble_eq_true (Eq.refl true) | decide))))); (conv => whnf); apply Exists.intro; apply Exists.intro; apply And.intro; (focus (((repeat (first | ((conv => whnf); (with_reducible refine And.intro ?_ ?_); (focus (first | exact Eq.refl _ | exact trivial | exact Int.natCast_nonneg _ | assumption | exact Nat.le_of_ble_eq_true (Eq.refl true) | decide))))); (conv => whnf)) <;> (exact rfl))); apply And.intro; (focus exact rfl); (conv => whnf))
          (repeat (first | ((conv => whnf); (with_reducible refine And.intro ?_ ?_); (focus (first | exact Eq.refl _ | exact trivial | exact Int.natCast_nonneg _ | assumption | exact Nat.le_of_ble_eq_true (Eq.refl true) | decide))))); (conv => whnf)
          refine Exists.intro [] ?_
          (repeat (first | ((conv => whnf); (with_reducible refine And.intro ?_ ?_); (focus (first | exact Eq.refl _ | exact trivial | exact Int.natCast_nonneg _ | assumption | exact Nat.le_of_ble_eq_true (Eq.refl true) | decide))))); (conv => whnf)
          refine CallsX.mono (CallsX.weak (rn []) (lazycref25_less_ok x62 x58 _ hr63) rfl (WS.mk (wt_cons (wd_agg (wl_cons (WE.refl _) (wl_cons (WE.refl _) wl_nil))) (wt_cons (wd_agg (wl_cons (WE.refl _) (wl_cons (WE.refl _) wl_nil))) wt_nil)) wb_nil)) ?_
          rintro d b ⟨rfl, rfl⟩
          (repeat (first | ((conv => whnf); (with_reducible refine And.intro ?_ ?_); (focus (first | exact Eq.refl _ | exact trivial | exact Int.natCast_nonneg _ | assumption | exact Nat.le_of_ble_eq_true (Eq.refl true) | decide))))); (conv => whnf)
          obtain rfl := some_eq hc64
          obtain rfl := some_eq hc65
          (repeat (first | ((conv => whnf); (with_reducible refine And.intro ?_ ?_); (focus (first | exact Eq.refl _ | exact trivial | exact Int.natCast_nonneg _ | assumption | exact Nat.le_of_ble_eq_true (Eq.refl true) | decide))))); (conv => whnf)
          exact Exists.intro (rn []) (WS.mk (wt_cons wd_ptr (wt_cons (wd_c (WE.refl _)) (wt_cons (wd_c (we_b (by first | exact Eq.refl _ | simp only [hc66, hc67, Bool.and_true, Bool.true_and, Bool.and_false, Bool.false_and, Bool.or_true, Bool.true_or, Bool.or_false, Bool.false_or, Bool.not_true, Bool.not_false, cond_true, cond_false, List.length_map]))) wt_nil))) (wb_cons rfl (wc_c (WE.refl _) (wc_c (WE.refl _) wc_nil)) wb_nil))
        · have hc64 := if_else (by first | assumption | exact Eq.refl _ | simp only [hc66, hc67, Bool.and_true, Bool.true_and, Bool.and_false, Bool.false_and, Bool.or_true, Bool.true_or, Bool.or_false, Bool.false_or, Bool.not_true, Bool.not_false, cond_true, cond_false, List.length_map]) hc64
          (conv => whnf)
          obtain rfl := some_eq hc64
          obtain rfl := some_eq hc65
          (repeat (first | ((conv => whnf); (with_reducible refine And.intro ?_ ?_); (focus (first | exact Eq.refl _ | exact trivial | exact Int.natCast_nonneg _ | assumption | exact Nat.le_of_ble_eq_true (Eq.refl true) | decide))))); (conv => whnf)
          exact Exists.intro (rn []) (WS.mk (wt_cons wd_ptr (wt_cons (wd_c (WE.refl _)) (wt_cons (wd_c (we_b (by first | exact Eq.refl _ | simp only [hc66, hc67, Bool.and_true, Bool.true_and, Bool.and_false, Bool.false_and, Bool.or_true, Bool.true_or, Bool.or_false, Bool.false_or, Bool.not_true, Bool.not_false, cond_true, cond_false, List.length_map]))) wt_nil))) (wb_cons rfl (wc_c (WE.refl _) (wc_c (WE.refl _) wc_nil)) wb_nil))
    obtain ⟨r0, hw⟩ := hw
    (conv => whnf)
    refine AWP.weak r0 hw ?_
    refine nd (by decide) _ _ _ ?_
    (conv => whnf)
    refine branch_hF hF (fun hc68 hF => ?_) (fun hc68 hF => ?_)
    · refine AWP.seq ?_
      refine nd (by decide) _ _ _ ?_
      (repeat (first | ((conv => whnf); (with_reducible refine And.intro ?_ ?_); (focus (first | exact Eq.refl _ | exact trivial | exact Int.natCast_nonneg _ | assumption | exact Nat.le_of_ble_eq_true (Eq.refl true) | decide))))); (conv => whnf)
      obtain rfl := some_eq hF
      refine nd (by decide) _ _ _ ?_
      (repeat (first | ((conv => whnf); (with_reducible refine And.intro ?_ ?_); (focus (first | exact Eq.refl _ | exact trivial | exact Int.natCast_nonneg _ | assumption | exact Nat.le_of_ble_eq_true (Eq.refl true) | decide))))); (conv => whnf)
      exact Exists.intro (rn []) (WS.mk (wt_cons (wd_c (WE.refl _)) wt_nil) wb_nil)
    · refine nd (by decide) _ _ _ ?_
      (conv => whnf)
      refine nd (by decide) _ _ _ ?_
      (repeat (first | ((conv => whnf); (with_reducible refine And.intro ?_ ?_); (focus (first | exact Eq.refl _ | exact trivial | exact Int.natCast_nonneg _ | assumption | exact Nat.le_of_ble_eq_true (Eq.refl true) | decide))))); (conv => whnf)
      refine AWL.weak (rn []) ?_ (ih_lazycref25_validSet_l1 (i_3 + 1) s xs59 _ hF (pre_i_3 ++ [x58]) (by rw [hs_i_3]; simp) (by rw [hk_i_3]; simp))
      exact (WS.mk (wt_cons wd_ptr (wt_cons (wd_c (we_i (wrap_succ hlen57 hl60))) wt_nil)) (wb_cons rfl (wc_c (WE.refl _) (wc_c (WE.refl _) wc_nil)) wb_nil))
  · subst hp60
    refine nd (by decide) _ _ _ ?_
    (conv => whnf)
    refine AWP.seq ?_
    refine nd (by decide) _ _ _ ?_
    (repeat (first | ((conv => whnf); (with_reducible refine And.intro ?_ ?_); (focus (first | exact Eq.refl _ | exact trivial | exact Int.natCast_nonneg _ | assumption | exact Nat.le_of_ble_eq_true (Eq.refl true) | decide))))); (conv => whnf)
    intro hlen69
    (try rw [List.length_map] at hlen69)
    (try rw [List.length_map])
    (repeat (first | ((conv => whnf); (with_reducible refine And.intro ?_ ?_); (focus (first | exact Eq.refl _ | exact trivial | exact Int.natCast_nonneg _ | assumption | exact Nat.le_of_ble_eq_true (Eq.refl true) | decide))))); (conv => whnf)
    obtain rfl := some_eq hF
    refine nd (by decide) _ _ _ ?_
    (repeat (first | ((conv => whnf); (with_reducible refine And.intro ?_ ?_); (focus (first | exact Eq.refl _ | exact trivial | exact Int.natCast_nonneg _ | assumption | exact Nat.le_of_ble_eq_true (Eq.refl true) | decide))))); (conv => whnf)
    exact Exists.intro (rn []) (WS.mk (wt_cons (wd_c (WE.refl _)) wt_nil) wb_nil)
end Go.Proofs.YtafniolcakiljaaDoor

set_option linter.unusedVariables false
set_option linter.unusedSimpArgs false
set_option maxRecDepth 100000
set_option maxHeartbeats 4000000
namespace Go.Proofs.YtafniolcakiljaaDoor
open Go Go.Am
def lazycref25_validSet (s : TExcSet) : Option (Bool) :=
  if s.fAll = true then
  some (((s.fList.length : Nat) : Int) == 0)
  else
  lazycref25_validSet_l1 0 s s.fList
def lazycref25_validSet.M (s : TExcSet) (r : Bool) : Prop :=
  CallsX Tryd.prog 61 [.agg [.v (.bool s.fAll), .sl (s.fList.map TExc.cells)]] [] (fun d b => d = .c none (.v (.bool r)) ∧ b = [])
theorem lazycref25_validSet_ok (s : TExcSet) (r : Bool) (hF : lazycref25_validSet s = some r) : lazycref25_validSet.M s r := by
  unfold lazycref25_validSet at hF
  unfold lazycref25_validSet.M
  refine enter tabOk Tryd.func61 rfl (by decide) (Nat.le_of_ble_eq_true rfl) rfl rfl rfl ?_
  refine AWP.seq ?_
  refine nd (by decide) _ _ _ ?_
  (repeat (first | ((conv => whnf); (with_reducible refine And.intro ?_ ?_); (focus (first | exact Eq.refl _ | exact trivial | exact Int.natCast_nonneg _ | assumption | exact Nat.le_of_ble_eq_true (Eq.refl true) | decide))))); (conv => whnf)
  refine AWP.seq ?_
  refine AWP.seq ?_
  refine nd (by decide) _ _ _ ?_
  (repeat (first | ((conv => whnf); (with_reducible refine And.intro ?_ ?_); (focus (first | exact Eq.refl _ | exact trivial | exact Int.natCast_nonneg _ | assumption | exact Nat.le_of_ble_eq_true (Eq.refl true) | decide))))); (conv => whnf)
  refine nd (by decide) _ _ _ ?_
  (conv => whnf)
  refine branch_hF hF (fun hc3 hF => ?_) (fun hc3 hF => ?_)
  · refine AWP.seq ?_
    refine nd (by decide) _ _ _ ?_
    (repeat (first | ((conv => whnf); (with_reducible refine And.intro ?_ ?_); (focus (first | exact Eq.refl _ | exact trivial | exact Int.natCast_nonneg _ | assumption | exact Nat.le_of_ble_eq_true (Eq.refl true) | decide))))); (conv => whnf)
    intro hlen4
    (try rw [List.length_map] at hlen4)
    (try rw [List.length_map])
    (repeat (first | ((conv => whnf); (with_reducible refine And.intro ?_ ?_); (focus (first | exact Eq.refl _ | exact trivial | exact Int.natCast_nonneg _ | assumption | exact Nat.le_of_ble_eq_true (Eq.refl true) | decide))))); (conv => whnf)
    obtain rfl := some_eq hF
    refine nd (by decide) _ _ _ ?_
    (repeat (first | ((conv => whnf); (with_reducible refine And.intro ?_ ?_); (focus (first | exact Eq.refl _ | exact trivial | exact Int.natCast_nonneg _ | assumption | exact Nat.le_of_ble_eq_true (Eq.refl true) | decide))))); (conv => whnf)
    exact Exists.intro (rn []) (WS.mk (wt_cons (wd_c (WE.refl _)) wt_nil) wb_nil)
  · refine nd (by decide) _ _ _ ?_
    (conv => whnf)
    refine AWP.seq ?_
    refine AWP.seq ?_
    refine nd (by decide) _ _ _ ?_
    (repeat (first | ((conv => whnf); (with_reducible refine And.intro ?_ ?_); (focus (first | exact Eq.refl _ | exact trivial | exact Int.natCast_nonneg _ | assumption | exact Nat.le_of_ble_eq_true (Eq.refl true) | decide))))); (conv => whnf)
    refine AWP.block ?_
    refine AWP.loop ?_
    refine AWL.weak (rn []) ?_ (lazycref25_validSet_l1_ok 0 s s.fList _ hF ([]) rfl rfl)
    exact (WS.mk (wt_cons wd_ptr (wt_cons (wd_c (WE.refl _)) wt_nil)) (wb_cons rfl (wc_c (WE.refl _) (wc_c (WE.refl _) wc_nil)) wb_nil))
end Go.Proofs.YtafniolcakiljaaDoor

set_option linter.unusedVariables false
set_option linter.unusedSimpArgs false
set_option maxRecDepth 100000
set_option maxHeartbeats 4000000
namespace Go.Proofs.YtafniolcakiljaaDoor
open Go Go.Am
def lazycref25_formed_k2 (toArray : TValue) (x_83 : Bool) : Option (Bool) :=
  if x_83 = true then
  some ((((toArray.fName.toList == (ByteArray.mk #[]).toList) && (toArray.fN == 0)) && (((toArray.fKids.length : Nat) : Int) == 0)) && ((!toArray.fSet.fAll) && (((toArray.fSet.fList.length : Nat) : Int) == 0)))
  else
  if (toArray.fOp == 5) = true then
  (if (((toArray.fName.toList == (ByteArray.mk #[]).toList) && (toArray.fN == 0)) && (((toArray.fKids.length : Nat) : Int) == 0)) = true then lazycref25_validSet toArray.fSet >>= fun r68 =>
  some r68 else some false) >>= fun c69 =>
  some c69
  else
  some false
def lazycref25_formed_k2.M (toArray : TValue) (x_83 : Bool) (r : Bool) : Prop :=
  toArray.fKids.length ≤ maxLen → AWP Tryd.prog 124 (Code.sub (bodyOf Tryd.f46) [1, 1, 1, 0, 1, 0, 1, 1, 1, 1, 1, 1, 1]) (Code.cont Tryd.prog 124 (bodyOf Tryd.f46) [1, 1, 1, 0, 1, 0, 1, 1, 1, 1, 1, 1, 1] (endK tab Tryd.f46.results [] (WRes (.c none (.v (.bool r))) []))) ⟨[(1, .ptr 1 0), (4, .c none (.v (.bool ((!toArray.fSet.fAll) && (((toArray.fSet.fList.length : Nat) : Int) == 0))))), (31, .c none (.v (.int .i64 toArray.fOp))), (83, .c none (.v (.bool x_83)))], [(1, [(none, .v (.int .i64 toArray.fOp)), (none, .v (.string toArray.fName)), (none, .v (.int .i64 toArray.fN)), (none, .sl (toArray.fKids.map TValue.cells)), (none, .v (.bool toArray.fSet.fAll)), (none, .sl (toArray.fSet.fList.map TExc.cells))])]⟩
theorem lazycref25_formed_k2_ok (toArray : TValue) (x_83 : Bool) (r : Bool) (hF : lazycref25_formed_k2 toArray x_83 = some r) : lazycref25_formed_k2.M toArray x_83 r := by
  unfold lazycref25_formed_k2 at hF
  unfold lazycref25_formed_k2.M
  intro hlen38
  refine nd (by decide) _ _ _ ?_
  (conv => whnf)
  refine branch_hF hF (fun hc61 hF => ?_) (fun hc61 hF => ?_)
  · refine AWP.seq ?_
    refine AWP.cutN (fun T => ∃ r, WS r T ⟨[(2, .c none (.v (.bool ((((toArray.fName.toList == (ByteArray.mk #[]).toList) && (toArray.fN == 0)) && (((toArray.fKids.length : Nat) : Int) == 0)) && ((!toArray.fSet.fAll) && (((toArray.fSet.fList.length : Nat) : Int) == 0))))))], []⟩) ?_ (fun T hw => ?_)
    · refine nd (by decide) _ _ _ ?_
      (repeat (first | ((conv => whnf); (with_reducible refine And.intro ?_ ?_); (focus (first | exact Eq.refl _ | exact trivial | exact Int.natCast_nonneg _ | assumption | exact Nat.le_of_ble_eq_true (Eq.refl true) | decide))))); (conv => whnf)
      refine branchG_intro true (fun hc63 => ?_) (fun hc63 => ?_)
      · (conv => whnf)
        (repeat (first | ((conv => whnf); (with_reducible refine And.intro ?_ ?_); (focus (first | exact Eq.refl _ | exact trivial | exact Int.natCast_nonneg _ | assumption | exact Nat.le_of_ble_eq_true (Eq.refl true) | decide))))); (conv => whnf)
        refine branchG_intro true (fun hc64 => ?_) (fun hc64 => ?_)
        · (conv => whnf)
          (repeat (first | ((conv => whnf); (with_reducible refine And.intro ?_ ?_); (focus (first | exact Eq.refl _ | exact trivial | exact Int.natCast_nonneg _ | assumption | exact Nat.le_of_ble_eq_true (Eq.refl true) | decide))))); (conv => whnf)
          intro hlen62
          (try rw [List.length_map] at hlen62)
          (try rw [List.length_map])
          (repeat (first | ((conv => whnf); (with_reducible refine And.intro ?_ ?_); (focus (first | exact Eq.refl _ | exact trivial | exact Int.natCast_nonneg _ | assumption | exact Nat.le_of_ble_eq_true (Eq.refl true) | decide))))); (conv => whnf)
          refine branchG_intro true (fun hc65 => ?_) (fun hc65 => ?_)
          · (conv => whnf)
            (repeat (first | ((conv => whnf); (with_reducible refine And.intro ?_ ?_); (focus (first | exact Eq.refl _ | exact trivial | exact Int.natCast_nonneg _ | assumption | exact Nat.le_of_ble_eq_true (Eq.refl true) | decide))))); (conv => whnf)
            exact Exists.intro (rn []) (WS.mk (wt_cons (wd_c (we_b (by first | exact Eq.refl _ | simp only [hc63, hc64, hc65, Bool.and_true, Bool.true_and, Bool.and_false, Bool.false_and, Bool.or_true, Bool.true_or, Bool.or_false, Bool.false_or, Bool.not_true, Bool.not_false, cond_true, cond_false, List.length_map]))) wt_nil) wb_nil)
          · (conv => whnf)
            (repeat (first | ((conv => whnf); (with_reducible refine And.intro ?_ ?_); (focus (first | exact Eq.refl _ | exact trivial | exact Int.natCast_nonneg _ | assumption | exact Nat.le_of_ble_eq_true (Eq.refl true) | decide))))); (conv => whnf)
            exact Exists.intro (rn []) (WS.mk (wt_cons (wd_c (we_b (by first | exact Eq.refl _ | simp only [hc63, hc64, hc65, Bool.and_true, Bool.true_and, Bool.and_false, Bool.false_and, Bool.or_true, Bool.true_or, Bool.or_false, Bool.false_or, Bool.not_true, Bool.not_false, cond_true, cond_false, List.length_map]))) wt_nil) wb_nil)
        · (conv => whnf)
          (repeat (first | ((conv => whnf); (with_reducible refine And.intro ?_ ?_); (focus (first | exact Eq.refl _ | exact trivial | exact Int.natCast_nonneg _ | assumption | exact Nat.le_of_ble_eq_true (Eq.refl true) | decide))))); (conv => whnf)
          exact Exists.intro (rn []) (WS.mk (wt_cons (wd_c (we_b (by first | exact Eq.refl _ | simp only [hc63, hc64, Bool.and_true, Bool.true_and, Bool.and_false, Bool.false_and, Bool.or_true, Bool.true_or, Bool.or_false, Bool.false_or, Bool.not_true, Bool.not_false, cond_true, cond_false, List.length_map]))) wt_nil) wb_nil)
      · (conv => whnf)
        (repeat (first | ((conv => whnf); (with_reducible refine And.intro ?_ ?_); (focus (first | exact Eq.refl _ | exact trivial | exact Int.natCast_nonneg _ | assumption | exact Nat.le_of_ble_eq_true (Eq.refl true) | decide))))); (conv => whnf)
        exact Exists.intro (rn []) (WS.mk (wt_cons (wd_c (we_b (by first | exact Eq.refl _ | simp only [hc63, Bool.and_true, Bool.true_and, Bool.and_false, Bool.false_and, Bool.or_true, Bool.true_or, Bool.or_false, Bool.false_or, Bool.not_true, Bool.not_false, cond_true, cond_false, List.length_map]))) wt_nil) wb_nil)
    obtain ⟨r0, hw⟩ := hw
    (conv => whnf)
    refine AWP.weak r0 hw ?_
    obtain rfl := some_eq hF
    refine nd (by decide) _ _ _ ?_
    (repeat (first | ((conv => whnf); (with_reducible refine And.intro ?_ ?_); (focus (first | exact Eq.refl _ | exact trivial | exact Int.natCast_nonneg _ | assumption | exact Nat.le_of_ble_eq_true (Eq.refl true) | decide))))); (conv => whnf)
    exact Exists.intro (rn []) (WS.mk (wt_cons (wd_c (WE.refl _)) wt_nil) wb_nil)
  · refine AWP.seq ?_
    refine nd (by decide) _ _ _ ?_
    (repeat (first | ((conv => whnf); (with_reducible refine And.intro ?_ ?_); (focus (first | exact Eq.refl _ | exact trivial | exact Int.natCast_nonneg _ | assumption | exact Nat.le_of_ble_eq_true (Eq.refl true) | decide))))); (conv => whnf)
    refine nd (by decide) _ _ _ ?_
    (conv => whnf)
    refine branch_hF hF (fun hc66 hF => ?_) (fun hc66 hF => ?_)
    · refine AWP.seq ?_
      obtain ⟨c69, hc69, hF⟩ := bind_some hF
      refine AWP.cutN (fun T => ∃ r, WS r T ⟨[(2, .c none (.v (.bool c69)))], []⟩) ?_ (fun T hw => ?_)
      · refine nd (by decide) _ _ _ ?_
        (repeat (first | ((conv => whnf); (with_reducible refine And.intro ?_ ?_); (focus (first | exact Eq.refl _ | exact trivial | exact Int.natCast_nonneg _ | assumption | exact Nat.le_of_ble_eq_true (Eq.refl true) | decide))))); (conv => whnf)
        refine branchG_intro true (fun hc70 => ?_) (fun hc70 => ?_)
        · (conv => whnf)
          (repeat (first | ((conv => whnf); (with_reducible refine And.intro ?_ ?_); (focus (first | exact Eq.refl _ | exact trivial | exact Int.natCast_nonneg _ | assumption | exact Nat.le_of_ble_eq_true (Eq.refl true) | decide))))); (conv => whnf)
          refine branchG_intro true (fun hc71 => ?_) (fun hc71 => ?_)
          · (conv => whnf)
            (repeat (first | ((conv => whnf); (with_reducible refine And.intro ?_ ?_); (focus (first | exact Eq.refl _ | exact trivial | exact Int.natCast_nonneg _ | assumption | exact Nat.le_of_ble_eq_true (Eq.refl true) | decide))))); (conv => whnf)
            intro hlen67
            (try rw [List.length_map] at hlen67)
            (try rw [List.length_map])
            (repeat (first | ((conv => whnf); (with_reducible refine And.intro ?_ ?_); (focus (first | exact Eq.refl _ | exact trivial | exact Int.natCast_nonneg _ | assumption | exact Nat.le_of_ble_eq_true (Eq.refl true) | decide))))); (conv => whnf)
            refine branchG_intro true (fun hc72 => ?_) (fun hc72 => ?_)
            · have hc69 := if_then (by first | assumption | exact Eq.refl _ | simp only [hc70, hc71, hc72, Bool.and_true, Bool.true_and, Bool.and_false, Bool.false_and, Bool.or_true, Bool.true_or, Bool.or_false, Bool.false_or, Bool.not_true, Bool.not_false, cond_true, cond_false, List.length_map]) hc69
              obtain ⟨r68, hr68, hc69⟩ := bind_some hc69
              (conv => whnf)
              (repeat (first | ((conv => whnf); (with_reducible refine And.intro ?_ ?_); (focus (first | exact Eq.refl _ | exact trivial | exact Int.natCast_nonneg _ | assumption | exact Nat.le_of_ble_eq_true (Eq.refl true) | decide))))); (conv => whnf)
              refine Exists.intro [] ?_
              (repeat (first | ((conv => whnf); (with_reducible refine And.intro ?_ ?_); (focus (first | exact Eq.refl _ | exact trivial | exact Int.natCast_nonneg _ | assumption | exact Nat.le_of_ble_eq_true (Eq.refl true) | decide))))); (conv => whnf)
              refine CallsX.mono (CallsX.weak (rn []) (lazycref25_validSet_ok toArray.fSet _ hr68) rfl (WS.mk (wt_cons (wd_agg (wl_cons (WE.refl _) (wl_cons (WE.refl _) wl_nil))) wt_nil) wb_nil)) ?_
              rintro d b ⟨rfl, rfl⟩
              (repeat (first | ((conv => whnf); (with_reducible refine And.intro ?_ ?_); (focus (first | exact Eq.refl _ | exact trivial | exact Int.natCast_nonneg _ | assumption | exact Nat.le_of_ble_eq_true (Eq.refl true) | decide))))); (conv => whnf)
              obtain rfl := some_eq hc69
              (repeat (first | ((conv => whnf); (with_reducible refine And.intro ?_ ?_); (focus (first | exact Eq.refl _ | exact trivial | exact Int.natCast_nonneg _ | assumption | exact Nat.le_of_ble_eq_true (Eq.refl true) | decide))))); (conv => whnf)
              exact Exists.intro (rn []) (WS.mk (wt_cons (wd_c (we_b (by first | exact Eq.refl _ | simp only [hc70, hc71, hc72, Bool.and_true, Bool.true_and, Bool.and_false, Bool.false_and, Bool.or_true, Bool.true_or, Bool.or_false, Bool.false_or, Bool.not_true, Bool.not_false, cond_true, cond_false, List.length_map]))) wt_nil) wb_nil)
            · have hc69 := if_else (by first | assumption | exact Eq.refl _ | simp only [hc70, hc71, hc72, Bool.and_true, Bool.true_and, Bool.and_false, Bool.false_and, Bool.or_true, Bool.true_or, Bool.or_false, Bool.false_or, Bool.not_true, Bool.not_false, cond_true, cond_false, List.length_map]) hc69
              (conv => whnf)
              obtain rfl := some_eq hc69
              (repeat (first | ((conv => whnf); (with_reducible refine And.intro ?_ ?_); (focus (first | exact Eq.refl _ | exact trivial | exact Int.natCast_nonneg _ | assumption | exact Nat.le_of_ble_eq_true (Eq.refl true) | decide))))); (conv => whnf)
              exact Exists.intro (rn []) (WS.mk (wt_cons (wd_c (we_b (by first | exact Eq.refl _ | simp only [hc70, hc71, hc72, Bool.and_true, Bool.true_and, Bool.and_false, Bool.false_and, Bool.or_true, Bool.true_or, Bool.or_false, Bool.false_or, Bool.not_true, Bool.not_false, cond_true, cond_false, List.length_map]))) wt_nil) wb_nil)
          · (conv => whnf)
            have hc69 := if_else (by first | assumption | exact Eq.refl _ | simp only [hc70, hc71, Bool.and_true, Bool.true_and, Bool.and_false, Bool.false_and, Bool.or_true, Bool.true_or, Bool.or_false, Bool.false_or, Bool.not_true, Bool.not_false, cond_true, cond_false, List.length_map]) hc69
            obtain rfl := some_eq hc69
            (repeat (first | ((conv => whnf); (with_reducible refine And.intro ?_ ?_); (focus (first | exact Eq.refl _ | exact trivial | exact Int.natCast_nonneg _ | assumption | exact Nat.le_of_ble_eq_true (Eq.refl true) | decide))))); (conv => whnf)
            exact Exists.intro (rn []) (WS.mk (wt_cons (wd_c (we_b (by first | exact Eq.refl _ | simp only [hc70, hc71, Bool.and_true, Bool.true_and, Bool.and_false, Bool.false_and, Bool.or_true, Bool.true_or, Bool.or_false, Bool.false_or, Bool.not_true, Bool.not_false, cond_true, cond_false, List.length_map]))) wt_nil) wb_nil)
        · (conv => whnf)
          have hc69 := if_else (by first | assumption | exact Eq.refl _ | simp only [hc70, Bool.and_true, Bool.true_and, Bool.and_false, Bool.false_and, Bool.or_true, Bool.true_or, Bool.or_false, Bool.false_or, Bool.not_true, Bool.not_false, cond_true, cond_false, List.length_map]) hc69
          obtain rfl := some_eq hc69
          (repeat (first | ((conv => whnf); (with_reducible refine And.intro ?_ ?_); (focus (first | exact Eq.refl _ | exact trivial | exact Int.natCast_nonneg _ | assumption | exact Nat.le_of_ble_eq_true (Eq.refl true) | decide))))); (conv => whnf)
          exact Exists.intro (rn []) (WS.mk (wt_cons (wd_c (we_b (by first | exact Eq.refl _ | simp only [hc70, Bool.and_true, Bool.true_and, Bool.and_false, Bool.false_and, Bool.or_true, Bool.true_or, Bool.or_false, Bool.false_or, Bool.not_true, Bool.not_false, cond_true, cond_false, List.length_map]))) wt_nil) wb_nil)
      obtain ⟨r0, hw⟩ := hw
      (conv => whnf)
      refine AWP.weak r0 hw ?_
      obtain rfl := some_eq hF
      refine nd (by decide) _ _ _ ?_
      (repeat (first | ((conv => whnf); (with_reducible refine And.intro ?_ ?_); (focus (first | exact Eq.refl _ | exact trivial | exact Int.natCast_nonneg _ | assumption | exact Nat.le_of_ble_eq_true (Eq.refl true) | decide))))); (conv => whnf)
      exact Exists.intro (rn []) (WS.mk (wt_cons (wd_c (WE.refl _)) wt_nil) wb_nil)
    · refine nd (by decide) _ _ _ ?_
      (conv => whnf)
      refine AWP.seq ?_
      refine nd (by decide) _ _ _ ?_
      (repeat (first | ((conv => whnf); (with_reducible refine And.intro ?_ ?_); (focus (first | exact Eq.refl _ | exact trivial | exact Int.natCast_nonneg _ | assumption | exact Nat.le_of_ble_eq_true (Eq.refl true) | decide))))); (conv => whnf)
      obtain rfl := some_eq hF
      refine nd (by decide) _ _ _ ?_
      (repeat (first | ((conv => whnf); (with_reducible refine And.intro ?_ ?_); (focus (first | exact Eq.refl _ | exact trivial | exact Int.natCast_nonneg _ | assumption | exact Nat.le_of_ble_eq_true (Eq.refl true) | decide))))); (conv => whnf)
      exact Exists.intro (rn []) (WS.mk (wt_cons (wd_c (WE.refl _)) wt_nil) wb_nil)
end Go.Proofs.YtafniolcakiljaaDoor

