/- Part 5 of the proof: the lifted functions and their walks. It holds for every input, without conditions. -/
import Derived.Test.YtafniolcakiljaaDoorVtA
import Derived.Test.YtafniolcakiljaaDoorVtB
import Derived.Test.YtafniolcakiljaaDoorVtC
import Derived.Test.YtafniolcakiljaaDoorVtD
set_option linter.unusedVariables false
set_option linter.unusedSimpArgs false
set_option maxRecDepth 100000
set_option maxHeartbeats 4000000
namespace Go.Proofs.YtafniolcakiljaaDoor
open Go Go.Am
mutual
def values_formed (toArray : TValue) : Option (Bool) :=
  (if (((!(toArray.fOp == 3)) && ((!(toArray.fName.toList == (ByteArray.mk #[]).toList)) || (decide (((toArray.fKids.length : Nat) : Int) > 0)))) || ((!((toArray.fOp == 1) || (toArray.fOp == 2))) && (toArray.fN != 0))) = true then some true else (if (toArray.fOp != 5) = true then values_noSet toArray.fSet >>= fun r8 =>
  some (!r8) else some false) >>= fun c9 =>
  some c9) >>= fun c10 =>
  if c10 = true then
  some false
  else
  if (toArray.fOp == 1) = true then
  values_formed_k1 toArray (toArray.fOp == 1)
  else
  if (toArray.fOp == 4) = true then
  values_formed_k1 toArray (toArray.fOp == 4)
  else
  values_formed_k1 toArray (toArray.fOp == 6)
  partial_fixpoint
def values_formed_k1 (toArray : TValue) (x_53 : Bool) : Option (Bool) :=
  if x_53 = true then
  some true
  else
  if (toArray.fOp == 2) = true then
  some ((decide (toArray.fN ≥ 0)) && (decide (toArray.fN ≤ 255)))
  else
  if (toArray.fOp == 5) = true then
  values_validSet toArray.fSet >>= fun r29 =>
  some r29
  else
  if (toArray.fOp == 3) = true then
  values_formed_l2 toArray 0 toArray.fKids
  else
  some false
  partial_fixpoint
def values_formed_l2 (toArray : TValue) (x_77 : Nat) (x_77_s_ : (List TValue)) : Option (Bool) :=
  (match x_77_s_ with
  | x59 :: xs60 =>
  values_formed x59 >>= fun r62 =>
  if (!r62) = true then
  some false
  else
  values_formed_l2 toArray (x_77 + 1) xs60
  | [] =>
  values_constructor toArray.fName >>= fun r64 =>
  some r64)
  partial_fixpoint
end
def values_formed.M (toArray : TValue) (r : Bool) : Prop :=
  CallsX Tryd.prog 43 [.agg [.v (.int .i64 toArray.fOp), .v (.string toArray.fName), .v (.int .i64 toArray.fN), .sl (toArray.fKids.map TValue.cells), .v (.bool toArray.fSet.fAll), .sl (toArray.fSet.fList.map TExc.cells)]] [] (fun d b => d = .c none (.v (.bool r)) ∧ b = [])
def values_formed_k1.M (toArray : TValue) (x_53 : Bool) (r : Bool) : Prop :=
  AWP Tryd.prog 88 (Code.sub (bodyOf Tryd.f43) [1, 1, 1, 0, 1, 0, 1]) (Code.cont Tryd.prog 88 (bodyOf Tryd.f43) [1, 1, 1, 0, 1, 0, 1] (endK tab Tryd.f43.results [] (WRes (.c none (.v (.bool r))) []))) ⟨[(1, .ptr 1 0), (52, .c none (.v (.int .i64 toArray.fOp))), (53, .c none (.v (.bool x_53)))], [(1, [(none, .v (.int .i64 toArray.fOp)), (none, .v (.string toArray.fName)), (none, .v (.int .i64 toArray.fN)), (none, .sl (toArray.fKids.map TValue.cells)), (none, .v (.bool toArray.fSet.fAll)), (none, .sl (toArray.fSet.fList.map TExc.cells))])]⟩
def values_formed_l2.M (toArray : TValue) (x_77 : Nat) (x_77_s_ : (List TValue)) (r : Bool) : Prop :=
  ∀ pre_x_77 : List TValue, toArray.fKids = pre_x_77 ++ x_77_s_ → x_77 = pre_x_77.length → toArray.fKids.length ≤ maxLen → AWL Tryd.prog 88 (Code.sub (bodyOf Tryd.f43) [1, 1, 1, 0, 1, 0, 1, 1, 1, 1, 1, 1, 1, 0, 0, 1, 0, 0]) (Code.cont Tryd.prog 88 (bodyOf Tryd.f43) [1, 1, 1, 0, 1, 0, 1, 1, 1, 1, 1, 1, 1, 0, 0, 1, 0] (endK tab Tryd.f43.results [] (WRes (.c none (.v (.bool r))) []))) ⟨[(1, .ptr 1 0), (75, .c none (.sl (toArray.fKids.map TValue.cells))), (76, .c none (.v (.int .i64 ((toArray.fKids.length : Nat) : Int)))), (77, .c none (.v (.int .i64 ((x_77 : Nat) : Int))))], [(1, [(none, .v (.int .i64 toArray.fOp)), (none, .v (.string toArray.fName)), (none, .v (.int .i64 toArray.fN)), (none, .sl (toArray.fKids.map TValue.cells)), (none, .v (.bool toArray.fSet.fAll)), (none, .sl (toArray.fSet.fList.map TExc.cells))])]⟩
theorem values_formed_all : (∀ (toArray : TValue), ∀ r, values_formed toArray = some r → values_formed.M toArray r) ∧ (∀ (toArray : TValue) (x_53 : Bool), ∀ r, values_formed_k1 toArray x_53 = some r → values_formed_k1.M toArray x_53 r) ∧ (∀ (toArray : TValue) (x_77 : Nat) (x_77_s_ : (List TValue)), ∀ r, values_formed_l2 toArray x_77 x_77_s_ = some r → values_formed_l2.M toArray x_77 x_77_s_ r) := by
  refine values_formed.mutual_partial_correctness values_formed.M values_formed_k1.M values_formed_l2.M ?_ ?_ ?_
  · intro values_formed_k1' ih_values_formed_k1 toArray r hF
    unfold values_formed.M
    refine enter tabOk Tryd.func43 rfl (by decide) (Nat.le_of_ble_eq_true rfl) rfl rfl rfl ?_
    refine AWP.seq ?_
    refine nd (by decide) _ _ _ ?_
    (repeat (first | ((conv => whnf); (with_reducible refine And.intro ?_ ?_); (focus (first | exact Eq.refl _ | exact trivial | exact Int.natCast_nonneg _ | assumption | exact Nat.le_of_ble_eq_true (Eq.refl true) | decide))))); (conv => whnf)
    refine AWP.seq ?_
    refine AWP.cutN (fun T => ∃ r, WS r T ⟨[(1, .ptr 1 0), (3, .c none (.v (.bool (toArray.fOp == 3)))), (4, .c none (.v (.bool ((toArray.fOp == 1) || (toArray.fOp == 2)))))], [(1, [(none, .v (.int .i64 toArray.fOp)), (none, .v (.string toArray.fName)), (none, .v (.int .i64 toArray.fN)), (none, .sl (toArray.fKids.map TValue.cells)), (none, .v (.bool toArray.fSet.fAll)), (none, .sl (toArray.fSet.fList.map TExc.cells))])]⟩) ?_ (fun T hw => ?_)
    · refine nd (by decide) _ _ _ ?_
      refine Exists.intro 12 (Exists.intro [[], [], [], [], [], [], [], [], [], [], [], []] (Exists.intro [([7, 8, 9, 10, 11, 12, 13, 14, 15, 16, 17, 3], [], []), ([8, 9, 10, 11, 12, 13, 14, 15, 16, 17, 3], [], []), ([9, 10, 11, 12, 13, 14, 15, 16, 17, 3], [], []), ([7, 8, 9, 10, 11, 12, 13, 14, 15, 16, 17, 3], [], []), ([7, 8, 9, 11, 12, 13, 14, 15, 16, 17, 3], [], []), ([7, 8, 9, 12, 13, 14, 15, 16, 17, 3], [], []), ([7, 8, 9, 13, 14, 15, 16, 17, 3], [], []), ([7, 8, 9, 14, 15, 16, 17, 3], [], []), ([7, 8, 9, 15, 16, 17, 3], [], []), ([7, 8, 9, 16, 17, 3], [], []), ([7, 8, 9, 17, 3], [], []), ([14, 15, 16, 17, 3], [], [])] (Exists.intro [7, 8, 9, 10, 11, 12, 13, 14, 15, 16, 17, 3] (And.intro (by decide +kernel) ?_))))
      ((repeat (first | ((conv => whnf); (with_reducible refine And.intro ?_ ?_); (focus (first | exact Eq.refl _ | exact trivial | exact Int.natCast_nonneg _ | assumption | exact Nat.le_of_ble_eq_true (Eq.refl true) | decide))))); (conv => whnf); apply Exists.intro; apply Exists.intro; apply And.intro; (focus (((repeat (first | ((conv => whnf); (with_reducible refine And.intro ?_ ?_); (focus (first | exact Eq.refl _ | exact trivial | exact Int.natCast_nonneg _ | assumption | exact Nat.le_of_ble_eq_true (Eq.refl true) | decide))))); (conv => whnf)) <;> (exact rfl))); apply And.intro; (focus exact rfl); (conv => whnf))
      ((repeat (first | ((conv => whnf); (with_reducible refine And.intro ?_ ?_); (focus (first | exact Eq.refl _ | exact trivial | exact Int.natCast_nonneg _ | assumption | exact Nat.le_of_ble_eq_true (Eq.refl true) | decide))))); (conv => whnf); apply Exists.intro; apply Exists.intro; apply And.intro; (focus (((repeat (first | ((conv => whnf); (with_reducible refine And.intro ?_ ?_); (focus (first | exact Eq.refl _ | exact trivial | exact Int.natCast_nonneg _ | assumption | exact Nat.le_of_ble_eq_true (Eq.refl true) | decide))))); (conv => whnf)) <;> (exact rfl))); apply And.intro; (focus exact rfl); (conv => whnf))
      ((repeat (first | ((conv => whnf); (with_reducible refine And.intro ?_ ?_); (focus (first | exact Eq.refl _ | exact trivial | exact Int.natCast_nonneg _ | assumption | exact Nat.le_of_ble_eq_true (Eq.refl true) | decide))))); (conv => whnf); apply Exists.intro; apply Exists.intro; apply And.intro; (focus (((repeat (first | ((conv => whnf); (with_reducible refine And.intro ?_ ?_); (focus (first | exact Eq.refl _ | exact trivial | exact Int.natCast_nonneg _ | assumption | exact Nat.le_of_ble_eq_true (Eq.refl true) | decide))))); (conv => whnf)) <;> (exact rfl))); apply And.intro; (focus exact rfl); (conv => whnf))
      ((repeat (first | ((conv => whnf); (with_reducible refine And.intro ?_ ?_); (focus (first | exact Eq.refl _ | exact trivial | exact Int.natCast_nonneg _ | assumption | exact Nat.le_of_ble_eq_true (Eq.refl true) | decide))))); (conv => whnf); apply Exists.intro; apply Exists.intro; apply And.intro; (focus (((repeat (first | ((conv => whnf); (with_reducible refine And.intro ?_ ?_); (focus (first | exact Eq.refl _ | exact trivial | exact Int.natCast_nonneg _ | assumption | exact Nat.le_of_ble_eq_true (Eq.refl true) | decide))))); (conv => whnf)) <;> (exact rfl))); apply And.intro; (focus exact rfl); (conv => whnf))
      ((repeat (first | ((conv => whnf); (with_reducible refine And.intro ?_ ?_); (focus (first | exact Eq.refl _ | exact trivial | exact Int.natCast_nonneg _ | assumption | exact Nat.le_of_ble_eq_true (Eq.refl true) | decide))))); (conv => whnf); apply Exists.intro; apply Exists.intro; apply And.intro; (focus (((repeat (first | ((conv => whnf); (with_reducible refine And.intro ?_ ?_); (focus (first | exact Eq.refl _ | exact trivial | exact Int.natCast_nonneg _ | assumption | exact Nat.le_of_ble_eq_true (Eq.refl true) | decide))))); (conv => whnf)) <;> (exact rfl))); apply And.intro; (focus exact rfl); (conv => whnf))
      ((repeat (first | ((conv => whnf); (with_reducible refine And.intro ?_ ?_); (focus (first | exact Eq.refl _ | exact trivial | exact Int.natCast_nonneg _ | assumption | exact Nat.le_of_ble_eq_true (Eq.refl true) | decide))))); (conv => whnf); apply Exists.intro; apply Exists.intro; apply And.intro; (focus (((repeat (first | ((conv => whnf); (with_reducible refine And.intro ?_ ?_); (focus (first | exact Eq.refl _ | exact trivial | exact Int.natCast_nonneg _ | assumption | exact Nat.le_of_ble_eq_true (Eq.refl true) | decide))))); (conv => whnf)) <;> (exact rfl))); apply And.intro; (focus exact rfl); (conv => whnf))
      ((repeat (first | ((conv => whnf); (with_reducible refine And.intro ?_ ?_); (focus (first | exact Eq.refl _ | exact trivial | exact Int.natCast_nonneg _ | assumption | exact Nat.le_of_ble_eq_true (Eq.refl true) | decide))))); (conv => whnf); apply Exists.intro; apply Exists.intro; apply And.intro; (focus (((repeat (first | ((conv => whnf); (with_reducible refine And.intro ?_ ?_); (focus (first | exact Eq.refl _ | exact trivial | exact Int.natCast_nonneg _ | assumption | exact Nat.le_of_ble_eq_true (Eq.refl true) | decide))))); (conv => whnf)) <;> (exact rfl))); apply And.intro; (focus exact rfl); (conv => whnf))
      (repeat (first | ((conv => whnf); (with_reducible refine And.intro ?_ ?_); (focus (first | exact Eq.refl _ | exact trivial | exact Int.natCast_nonneg _ | assumption | exact Nat.le_of_ble_eq_true (Eq.refl true) | decide))))); (conv => whnf)
      refine branchG_intro false (fun hc1 => ?_) (fun hc1 => ?_)
      · (conv => whnf)
        ((repeat (first | ((conv => whnf); (with_reducible refine And.intro ?_ ?_); (focus (first | exact Eq.refl _ | exact trivial | exact Int.natCast_nonneg _ | assumption | exact Nat.le_of_ble_eq_true (Eq.refl true) | decide))))); (conv => whnf); apply Exists.intro; apply Exists.intro; apply And.intro; (focus (((repeat (first | ((conv => whnf); (with_reducible refine And.intro ?_ ?_); (focus (first | exact Eq.refl _ | exact trivial | exact Int.natCast_nonneg _ | assumption | exact Nat.le_of_ble_eq_true (Eq.refl true) | decide))))); (conv => whnf)) <;> (exact rfl))); apply And.intro; (focus exact rfl); (conv => whnf))
        ((repeat (first | ((conv => whnf); (with_reducible refine And.intro ?_ ?_); (focus (first | exact Eq.refl _ | exact trivial | exact Int.natCast_nonneg _ | assumption | exact Nat.le_of_ble_eq_true (Eq.refl true) | decide))))); (conv => whnf); apply Exists.intro; apply Exists.intro; apply And.intro; (focus (((repeat (first | ((conv => whnf); (with_reducible refine And.intro ?_ ?_); (focus (first | exact Eq.refl _ | exact trivial | exact Int.natCast_nonneg _ | assumption | exact Nat.le_of_ble_eq_true (Eq.refl true) | decide))))); (conv => whnf)) <;> (exact rfl))); apply And.intro; (focus exact rfl); (conv => whnf))
        (repeat (first | ((conv => whnf); (with_reducible refine And.intro ?_ ?_); (focus (first | exact Eq.refl _ | exact trivial | exact Int.natCast_nonneg _ | assumption | exact Nat.le_of_ble_eq_true (Eq.refl true) | decide))))); (conv => whnf)
        exact Exists.intro (rn []) (WS.mk (wt_cons wd_ptr (wt_cons (wd_c (WE.refl _)) (wt_cons (wd_c (we_b (by first | exact Eq.refl _ | simp only [hc1, Bool.and_true, Bool.true_and, Bool.and_false, Bool.false_and, Bool.or_true, Bool.true_or, Bool.or_false, Bool.false_or, Bool.not_true, Bool.not_false, cond_true, cond_false, List.length_map]))) wt_nil))) (wb_cons rfl (wc_c (WE.refl _) (wc_c (WE.refl _) (wc_c (WE.refl _) (wc_c (WE.refl _) (wc_c (WE.refl _) (wc_c (WE.refl _) wc_nil)))))) wb_nil))
      · (conv => whnf)
        ((repeat (first | ((conv => whnf); (with_reducible refine And.intro ?_ ?_); (focus (first | exact Eq.refl _ | exact trivial | exact Int.natCast_nonneg _ | assumption | exact Nat.le_of_ble_eq_true (Eq.refl true) | decide))))); (conv => whnf); apply Exists.intro; apply Exists.intro; apply And.intro; (focus (((repeat (first | ((conv => whnf); (with_reducible refine And.intro ?_ ?_); (focus (first | exact Eq.refl _ | exact trivial | exact Int.natCast_nonneg _ | assumption | exact Nat.le_of_ble_eq_true (Eq.refl true) | decide))))); (conv => whnf)) <;> (exact rfl))); apply And.intro; (focus exact rfl); (conv => whnf))
        ((repeat (first | ((conv => whnf); (with_reducible refine And.intro ?_ ?_); (focus (first | exact Eq.refl _ | exact trivial | exact Int.natCast_nonneg _ | assumption | exact Nat.le_of_ble_eq_true (Eq.refl true) | decide))))); (conv => whnf); apply Exists.intro; apply Exists.intro; apply And.intro; (focus (((repeat (first | ((conv => whnf); (with_reducible refine And.intro ?_ ?_); (focus (first | exact Eq.refl _ | exact trivial | exact Int.natCast_nonneg _ | assumption | exact Nat.le_of_ble_eq_true (Eq.refl true) | decide))))); (conv => whnf)) <;> (exact rfl))); apply And.intro; (focus exact rfl); (conv => whnf))
        ((repeat (first | ((conv => whnf); (with_reducible refine And.intro ?_ ?_); (focus (first | exact Eq.refl _ | exact trivial | exact Int.natCast_nonneg _ | assumption | exact Nat.le_of_ble_eq_true (Eq.refl true) | decide))))); (conv => whnf); apply Exists.intro; apply Exists.intro; apply And.intro; (focus (((repeat (first | ((conv => whnf); (with_reducible refine And.intro ?_ ?_); (focus (first | exact Eq.refl _ | exact trivial | exact Int.natCast_nonneg _ | assumption | exact Nat.le_of_ble_eq_true (Eq.refl true) | decide))))); (conv => whnf)) <;> (exact rfl))); apply And.intro; (focus exact rfl); (conv => whnf))
        ((repeat (first | ((conv => whnf); (with_reducible refine And.intro ?_ ?_); (focus (first | exact Eq.refl _ | exact trivial | exact Int.natCast_nonneg _ | assumption | exact Nat.le_of_ble_eq_true (Eq.refl true) | decide))))); (conv => whnf); apply Exists.intro; apply Exists.intro; apply And.intro; (focus (((repeat (first | ((conv => whnf); (with_reducible refine And.intro ?_ ?_); (focus (first | exact Eq.refl _ | exact trivial | exact Int.natCast_nonneg _ | assumption | exact Nat.le_of_ble_eq_true (Eq.refl true) | decide))))); (conv => whnf)) <;> (exact rfl))); apply And.intro; (focus exact rfl); (conv => whnf))
        ((repeat (first | ((conv => whnf); (with_reducible refine And.intro ?_ ?_); (focus (first | exact Eq.refl _ | exact trivial | exact Int.natCast_nonneg _ | assumption | exact Nat.le_of_ble_eq_true (Eq.refl true) | decide))))); (conv => whnf); apply Exists.intro; apply Exists.intro; apply And.intro; (focus (((repeat (first | ((conv => whnf); (with_reducible refine And.intro ?_ ?_); (focus (first | exact Eq.refl _ | exact trivial | exact Int.natCast_nonneg _ | assumption | exact Nat.le_of_ble_eq_true (Eq.refl true) | decide))))); (conv => whnf)) <;> (exact rfl))); apply And.intro; (focus exact rfl); (conv => whnf))
        (repeat (first | ((conv => whnf); (with_reducible refine And.intro ?_ ?_); (focus (first | exact Eq.refl _ | exact trivial | exact Int.natCast_nonneg _ | assumption | exact Nat.le_of_ble_eq_true (Eq.refl true) | decide))))); (conv => whnf)
        exact Exists.intro (rn []) (WS.mk (wt_cons wd_ptr (wt_cons (wd_c (WE.refl _)) (wt_cons (wd_c (we_b (by first | exact Eq.refl _ | simp only [hc1, Bool.and_true, Bool.true_and, Bool.and_false, Bool.false_and, Bool.or_true, Bool.true_or, Bool.or_false, Bool.false_or, Bool.not_true, Bool.not_false, cond_true, cond_false, List.length_map]))) wt_nil))) (wb_cons rfl (wc_c (WE.refl _) (wc_c (WE.refl _) (wc_c (WE.refl _) (wc_c (WE.refl _) (wc_c (WE.refl _) (wc_c (WE.refl _) wc_nil)))))) wb_nil))
    obtain ⟨r0, hw⟩ := hw
    (conv => whnf)
    refine AWP.weak r0 hw ?_
    refine AWP.seq ?_
    refine AWP.seq ?_
    obtain ⟨c10, hc10, hF⟩ := bind_some hF
    refine AWP.cutN (fun T => ∃ r, WS r T ⟨[(1, .ptr 1 0), (50, .c none (.v (.bool c10)))], [(1, [(none, .v (.int .i64 toArray.fOp)), (none, .v (.string toArray.fName)), (none, .v (.int .i64 toArray.fN)), (none, .sl (toArray.fKids.map TValue.cells)), (none, .v (.bool toArray.fSet.fAll)), (none, .sl (toArray.fSet.fList.map TExc.cells))])]⟩) ?_ (fun T hw => ?_)
    · refine nd (by decide) _ _ _ ?_
      (repeat (first | ((conv => whnf); (with_reducible refine And.intro ?_ ?_); (focus (first | exact Eq.refl _ | exact trivial | exact Int.natCast_nonneg _ | assumption | exact Nat.le_of_ble_eq_true (Eq.refl true) | decide))))); (conv => whnf)
      refine branchG_intro true (fun hc11 => ?_) (fun hc11 => ?_)
      · (conv => whnf)
        (repeat (first | ((conv => whnf); (with_reducible refine And.intro ?_ ?_); (focus (first | exact Eq.refl _ | exact trivial | exact Int.natCast_nonneg _ | assumption | exact Nat.le_of_ble_eq_true (Eq.refl true) | decide))))); (conv => whnf)
        refine branchG_intro false (fun hc12 => ?_) (fun hc12 => ?_)
        · (conv => whnf)
          have hc10 := if_then (by first | assumption | exact Eq.refl _ | simp only [hc11, hc12, Bool.and_true, Bool.true_and, Bool.and_false, Bool.false_and, Bool.or_true, Bool.true_or, Bool.or_false, Bool.false_or, Bool.not_true, Bool.not_false, cond_true, cond_false, List.length_map]) hc10
          obtain rfl := some_eq hc10
          (repeat (first | ((conv => whnf); (with_reducible refine And.intro ?_ ?_); (focus (first | exact Eq.refl _ | exact trivial | exact Int.natCast_nonneg _ | assumption | exact Nat.le_of_ble_eq_true (Eq.refl true) | decide))))); (conv => whnf)
          exact Exists.intro (rn []) (WS.mk (wt_cons wd_ptr (wt_cons (wd_c (we_b (by first | exact Eq.refl _ | simp only [hc11, hc12, Bool.and_true, Bool.true_and, Bool.and_false, Bool.false_and, Bool.or_true, Bool.true_or, Bool.or_false, Bool.false_or, Bool.not_true, Bool.not_false, cond_true, cond_false, List.length_map]))) wt_nil)) (wb_cons rfl (wc_c (WE.refl _) (wc_c (WE.refl _) (wc_c (WE.refl _) (wc_c (WE.refl _) (wc_c (WE.refl _) (wc_c (WE.refl _) wc_nil)))))) wb_nil))
        · (conv => whnf)
          (repeat (first | ((conv => whnf); (with_reducible refine And.intro ?_ ?_); (focus (first | exact Eq.refl _ | exact trivial | exact Int.natCast_nonneg _ | assumption | exact Nat.le_of_ble_eq_true (Eq.refl true) | decide))))); (conv => whnf)
          intro hlen7
          (try rw [List.length_map] at hlen7)
          (try rw [List.length_map])
          (repeat (first | ((conv => whnf); (with_reducible refine And.intro ?_ ?_); (focus (first | exact Eq.refl _ | exact trivial | exact Int.natCast_nonneg _ | assumption | exact Nat.le_of_ble_eq_true (Eq.refl true) | decide))))); (conv => whnf)
          refine branchG_intro false (fun hc13 => ?_) (fun hc13 => ?_)
          · (conv => whnf)
            have hc10 := if_then (by first | assumption | exact Eq.refl _ | simp only [hc11, hc12, hc13, Bool.and_true, Bool.true_and, Bool.and_false, Bool.false_and, Bool.or_true, Bool.true_or, Bool.or_false, Bool.false_or, Bool.not_true, Bool.not_false, cond_true, cond_false, List.length_map]) hc10
            obtain rfl := some_eq hc10
            (repeat (first | ((conv => whnf); (with_reducible refine And.intro ?_ ?_); (focus (first | exact Eq.refl _ | exact trivial | exact Int.natCast_nonneg _ | assumption | exact Nat.le_of_ble_eq_true (Eq.refl true) | decide))))); (conv => whnf)
            exact Exists.intro (rn []) (WS.mk (wt_cons wd_ptr (wt_cons (wd_c (we_b (by first | exact Eq.refl _ | simp only [hc11, hc12, hc13, Bool.and_true, Bool.true_and, Bool.and_false, Bool.false_and, Bool.or_true, Bool.true_or, Bool.or_false, Bool.false_or, Bool.not_true, Bool.not_false, cond_true, cond_false, List.length_map]))) wt_nil)) (wb_cons rfl (wc_c (WE.refl _) (wc_c (WE.refl _) (wc_c (WE.refl _) (wc_c (WE.refl _) (wc_c (WE.refl _) (wc_c (WE.refl _) wc_nil)))))) wb_nil))
          · (conv => whnf)
            (repeat (first | ((conv => whnf); (with_reducible refine And.intro ?_ ?_); (focus (first | exact Eq.refl _ | exact trivial | exact Int.natCast_nonneg _ | assumption | exact Nat.le_of_ble_eq_true (Eq.refl true) | decide))))); (conv => whnf)
            refine branchG_intro true (fun hc14 => ?_) (fun hc14 => ?_)
            · (conv => whnf)
              (repeat (first | ((conv => whnf); (with_reducible refine And.intro ?_ ?_); (focus (first | exact Eq.refl _ | exact trivial | exact Int.natCast_nonneg _ | assumption | exact Nat.le_of_ble_eq_true (Eq.refl true) | decide))))); (conv => whnf)
              refine branchG_intro false (fun hc15 => ?_) (fun hc15 => ?_)
              · have hc10 := if_then (by first | assumption | exact Eq.refl _ | simp only [hc11, hc12, hc13, hc14, hc15, Bool.and_true, Bool.true_and, Bool.and_false, Bool.false_and, Bool.or_true, Bool.true_or, Bool.or_false, Bool.false_or, Bool.not_true, Bool.not_false, cond_true, cond_false, List.length_map]) hc10
                (conv => whnf)
                obtain rfl := some_eq hc10
                (repeat (first | ((conv => whnf); (with_reducible refine And.intro ?_ ?_); (focus (first | exact Eq.refl _ | exact trivial | exact Int.natCast_nonneg _ | assumption | exact Nat.le_of_ble_eq_true (Eq.refl true) | decide))))); (conv => whnf)
                exact Exists.intro (rn []) (WS.mk (wt_cons wd_ptr (wt_cons (wd_c (we_b (by first | exact Eq.refl _ | simp only [hc11, hc12, hc13, hc14, hc15, Bool.and_true, Bool.true_and, Bool.and_false, Bool.false_and, Bool.or_true, Bool.true_or, Bool.or_false, Bool.false_or, Bool.not_true, Bool.not_false, cond_true, cond_false, List.length_map]))) wt_nil)) (wb_cons rfl (wc_c (WE.refl _) (wc_c (WE.refl _) (wc_c (WE.refl _) (wc_c (WE.refl _) (wc_c (WE.refl _) (wc_c (WE.refl _) wc_nil)))))) wb_nil))
              · have hc10 := if_else (by first | assumption | exact Eq.refl _ | simp only [hc11, hc12, hc13, hc14, hc15, Bool.and_true, Bool.true_and, Bool.and_false, Bool.false_and, Bool.or_true, Bool.true_or, Bool.or_false, Bool.false_or, Bool.not_true, Bool.not_false, cond_true, cond_false, List.length_map]) hc10
                obtain ⟨c9, hc9, hc10⟩ := bind_some hc10
                (conv => whnf)
                (repeat (first | ((conv => whnf); (with_reducible refine And.intro ?_ ?_); (focus (first | exact Eq.refl _ | exact trivial | exact Int.natCast_nonneg _ | assumption | exact Nat.le_of_ble_eq_true (Eq.refl true) | decide))))); (conv => whnf)
                refine branchG_intro true (fun hc16 => ?_) (fun hc16 => ?_)
                · have hc9 := if_then (by first | assumption | exact Eq.refl _ | simp only [hc11, hc12, hc13, hc14, hc15, hc16, Bool.and_true, Bool.true_and, Bool.and_false, Bool.false_and, Bool.or_true, Bool.true_or, Bool.or_false, Bool.false_or, Bool.not_true, Bool.not_false, cond_true, cond_false, List.length_map]) hc9
                  obtain ⟨r8, hr8, hc9⟩ := bind_some hc9
                  (conv => whnf)
                  (repeat (first | ((conv => whnf); (with_reducible refine And.intro ?_ ?_); (focus (first | exact Eq.refl _ | exact trivial | exact Int.natCast_nonneg _ | assumption | exact Nat.le_of_ble_eq_true (Eq.refl true) | decide))))); (conv => whnf)
                  refine Exists.intro [] ?_
                  (repeat (first | ((conv => whnf); (with_reducible refine And.intro ?_ ?_); (focus (first | exact Eq.refl _ | exact trivial | exact Int.natCast_nonneg _ | assumption | exact Nat.le_of_ble_eq_true (Eq.refl true) | decide))))); (conv => whnf)
                  refine CallsX.mono (CallsX.weak (rn []) (values_noSet_ok toArray.fSet _ hr8) rfl (WS.mk (wt_cons (wd_agg (wl_cons (WE.refl _) (wl_cons (WE.refl _) wl_nil))) wt_nil) wb_nil)) ?_
                  rintro d b ⟨rfl, rfl⟩
                  (repeat (first | ((conv => whnf); (with_reducible refine And.intro ?_ ?_); (focus (first | exact Eq.refl _ | exact trivial | exact Int.natCast_nonneg _ | assumption | exact Nat.le_of_ble_eq_true (Eq.refl true) | decide))))); (conv => whnf)
                  obtain rfl := some_eq hc9
                  obtain rfl := some_eq hc10
                  (repeat (first | ((conv => whnf); (with_reducible refine And.intro ?_ ?_); (focus (first | exact Eq.refl _ | exact trivial | exact Int.natCast_nonneg _ | assumption | exact Nat.le_of_ble_eq_true (Eq.refl true) | decide))))); (conv => whnf)
                  exact Exists.intro (rn []) (WS.mk (wt_cons wd_ptr (wt_cons (wd_c (we_b (by first | exact Eq.refl _ | simp only [hc11, hc12, hc13, hc14, hc15, hc16, Bool.and_true, Bool.true_and, Bool.and_false, Bool.false_and, Bool.or_true, Bool.true_or, Bool.or_false, Bool.false_or, Bool.not_true, Bool.not_false, cond_true, cond_false, List.length_map]))) wt_nil)) (wb_cons rfl (wc_c (WE.refl _) (wc_c (WE.refl _) (wc_c (WE.refl _) (wc_c (WE.refl _) (wc_c (WE.refl _) (wc_c (WE.refl _) wc_nil)))))) wb_nil))
                · have hc9 := if_else (by first | assumption | exact Eq.refl _ | simp only [hc11, hc12, hc13, hc14, hc15, hc16, Bool.and_true, Bool.true_and, Bool.and_false, Bool.false_and, Bool.or_true, Bool.true_or, Bool.or_false, Bool.false_or, Bool.not_true, Bool.not_false, cond_true, cond_false, List.length_map]) hc9
                  (conv => whnf)
                  obtain rfl := some_eq hc9
                  obtain rfl := some_eq hc10
                  (repeat (first | ((conv => whnf); (with_reducible refine And.intro ?_ ?_); (focus (first | exact Eq.refl _ | exact trivial | exact Int.natCast_nonneg _ | assumption | exact Nat.le_of_ble_eq_true (Eq.refl true) | decide))))); (conv => whnf)
                  exact Exists.intro (rn []) (WS.mk (wt_cons wd_ptr (wt_cons (wd_c (we_b (by first | exact Eq.refl _ | simp only [hc11, hc12, hc13, hc14, hc15, hc16, Bool.and_true, Bool.true_and, Bool.and_false, Bool.false_and, Bool.or_true, Bool.true_or, Bool.or_false, Bool.false_or, Bool.not_true, Bool.not_false, cond_true, cond_false, List.length_map]))) wt_nil)) (wb_cons rfl (wc_c (WE.refl _) (wc_c (WE.refl _) (wc_c (WE.refl _) (wc_c (WE.refl _) (wc_c (WE.refl _) (wc_c (WE.refl _) wc_nil)))))) wb_nil))
            · (conv => whnf)
              have hc10 := if_else (by first | assumption | exact Eq.refl _ | simp only [hc11, hc12, hc13, hc14, Bool.and_true, Bool.true_and, Bool.and_false, Bool.false_and, Bool.or_true, Bool.true_or, Bool.or_false, Bool.false_or, Bool.not_true, Bool.not_false, cond_true, cond_false, List.length_map]) hc10
              obtain ⟨c9, hc9, hc10⟩ := bind_some hc10
              (repeat (first | ((conv => whnf); (with_reducible refine And.intro ?_ ?_); (focus (first | exact Eq.refl _ | exact trivial | exact Int.natCast_nonneg _ | assumption | exact Nat.le_of_ble_eq_true (Eq.refl true) | decide))))); (conv => whnf)
              refine branchG_intro true (fun hc17 => ?_) (fun hc17 => ?_)
              · have hc9 := if_then (by first | assumption | exact Eq.refl _ | simp only [hc11, hc12, hc13, hc14, hc17, Bool.and_true, Bool.true_and, Bool.and_false, Bool.false_and, Bool.or_true, Bool.true_or, Bool.or_false, Bool.false_or, Bool.not_true, Bool.not_false, cond_true, cond_false, List.length_map]) hc9
                obtain ⟨r8, hr8, hc9⟩ := bind_some hc9
                (conv => whnf)
                (repeat (first | ((conv => whnf); (with_reducible refine And.intro ?_ ?_); (focus (first | exact Eq.refl _ | exact trivial | exact Int.natCast_nonneg _ | assumption | exact Nat.le_of_ble_eq_true (Eq.refl true) | decide))))); (conv => whnf)
                refine Exists.intro [] ?_
                (repeat (first | ((conv => whnf); (with_reducible refine And.intro ?_ ?_); (focus (first | exact Eq.refl _ | exact trivial | exact Int.natCast_nonneg _ | assumption | exact Nat.le_of_ble_eq_true (Eq.refl true) | decide))))); (conv => whnf)
                refine CallsX.mono (CallsX.weak (rn []) (values_noSet_ok toArray.fSet _ hr8) rfl (WS.mk (wt_cons (wd_agg (wl_cons (WE.refl _) (wl_cons (WE.refl _) wl_nil))) wt_nil) wb_nil)) ?_
                rintro d b ⟨rfl, rfl⟩
                (repeat (first | ((conv => whnf); (with_reducible refine And.intro ?_ ?_); (focus (first | exact Eq.refl _ | exact trivial | exact Int.natCast_nonneg _ | assumption | exact Nat.le_of_ble_eq_true (Eq.refl true) | decide))))); (conv => whnf)
                obtain rfl := some_eq hc9
                obtain rfl := some_eq hc10
                (repeat (first | ((conv => whnf); (with_reducible refine And.intro ?_ ?_); (focus (first | exact Eq.refl _ | exact trivial | exact Int.natCast_nonneg _ | assumption | exact Nat.le_of_ble_eq_true (Eq.refl true) | decide))))); (conv => whnf)
                exact Exists.intro (rn []) (WS.mk (wt_cons wd_ptr (wt_cons (wd_c (we_b (by first | exact Eq.refl _ | simp only [hc11, hc12, hc13, hc14, hc17, Bool.and_true, Bool.true_and, Bool.and_false, Bool.false_and, Bool.or_true, Bool.true_or, Bool.or_false, Bool.false_or, Bool.not_true, Bool.not_false, cond_true, cond_false, List.length_map]))) wt_nil)) (wb_cons rfl (wc_c (WE.refl _) (wc_c (WE.refl _) (wc_c (WE.refl _) (wc_c (WE.refl _) (wc_c (WE.refl _) (wc_c (WE.refl _) wc_nil)))))) wb_nil))
              · have hc9 := if_else (by first | assumption | exact Eq.refl _ | simp only [hc11, hc12, hc13, hc14, hc17, Bool.and_true, Bool.true_and, Bool.and_false, Bool.false_and, Bool.or_true, Bool.true_or, Bool.or_false, Bool.false_or, Bool.not_true, Bool.not_false, cond_true, cond_false, List.length_map]) hc9
                (conv => whnf)
                obtain rfl := some_eq hc9
                obtain rfl := some_eq hc10
                (repeat (first | ((conv => whnf); (with_reducible refine And.intro ?_ ?_); (focus (first | exact Eq.refl _ | exact trivial | exact Int.natCast_nonneg _ | assumption | exact Nat.le_of_ble_eq_true (Eq.refl true) | decide))))); (conv => whnf)
                exact Exists.intro (rn []) (WS.mk (wt_cons wd_ptr (wt_cons (wd_c (we_b (by first | exact Eq.refl _ | simp only [hc11, hc12, hc13, hc14, hc17, Bool.and_true, Bool.true_and, Bool.and_false, Bool.false_and, Bool.or_true, Bool.true_or, Bool.or_false, Bool.false_or, Bool.not_true, Bool.not_false, cond_true, cond_false, List.length_map]))) wt_nil)) (wb_cons rfl (wc_c (WE.refl _) (wc_c (WE.refl _) (wc_c (WE.refl _) (wc_c (WE.refl _) (wc_c (WE.refl _) (wc_c (WE.refl _) wc_nil)))))) wb_nil))
      · (conv => whnf)
        (repeat (first | ((conv => whnf); (with_reducible refine And.intro ?_ ?_); (focus (first | exact Eq.refl _ | exact trivial | exact Int.natCast_nonneg _ | assumption | exact Nat.le_of_ble_eq_true (Eq.refl true) | decide))))); (conv => whnf)
        refine branchG_intro true (fun hc18 => ?_) (fun hc18 => ?_)
        · (conv => whnf)
          (repeat (first | ((conv => whnf); (with_reducible refine And.intro ?_ ?_); (focus (first | exact Eq.refl _ | exact trivial | exact Int.natCast_nonneg _ | assumption | exact Nat.le_of_ble_eq_true (Eq.refl true) | decide))))); (conv => whnf)
          refine branchG_intro false (fun hc19 => ?_) (fun hc19 => ?_)
          · have hc10 := if_then (by first | assumption | exact Eq.refl _ | simp only [hc11, hc18, hc19, Bool.and_true, Bool.true_and, Bool.and_false, Bool.false_and, Bool.or_true, Bool.true_or, Bool.or_false, Bool.false_or, Bool.not_true, Bool.not_false, cond_true, cond_false, List.length_map]) hc10
            (conv => whnf)
            obtain rfl := some_eq hc10
            (repeat (first | ((conv => whnf); (with_reducible refine And.intro ?_ ?_); (focus (first | exact Eq.refl _ | exact trivial | exact Int.natCast_nonneg _ | assumption | exact Nat.le_of_ble_eq_true (Eq.refl true) | decide))))); (conv => whnf)
            exact Exists.intro (rn []) (WS.mk (wt_cons wd_ptr (wt_cons (wd_c (we_b (by first | exact Eq.refl _ | simp only [hc11, hc18, hc19, Bool.and_true, Bool.true_and, Bool.and_false, Bool.false_and, Bool.or_true, Bool.true_or, Bool.or_false, Bool.false_or, Bool.not_true, Bool.not_false, cond_true, cond_false, List.length_map]))) wt_nil)) (wb_cons rfl (wc_c (WE.refl _) (wc_c (WE.refl _) (wc_c (WE.refl _) (wc_c (WE.refl _) (wc_c (WE.refl _) (wc_c (WE.refl _) wc_nil)))))) wb_nil))
          · have hc10 := if_else (by first | assumption | exact Eq.refl _ | simp only [hc11, hc18, hc19, Bool.and_true, Bool.true_and, Bool.and_false, Bool.false_and, Bool.or_true, Bool.true_or, Bool.or_false, Bool.false_or, Bool.not_true, Bool.not_false, cond_true, cond_false, List.length_map]) hc10
            obtain ⟨c9, hc9, hc10⟩ := bind_some hc10
            (conv => whnf)
            (repeat (first | ((conv => whnf); (with_reducible refine And.intro ?_ ?_); (focus (first | exact Eq.refl _ | exact trivial | exact Int.natCast_nonneg _ | assumption | exact Nat.le_of_ble_eq_true (Eq.refl true) | decide))))); (conv => whnf)
            refine branchG_intro true (fun hc20 => ?_) (fun hc20 => ?_)
            · have hc9 := if_then (by first | assumption | exact Eq.refl _ | simp only [hc11, hc18, hc19, hc20, Bool.and_true, Bool.true_and, Bool.and_false, Bool.false_and, Bool.or_true, Bool.true_or, Bool.or_false, Bool.false_or, Bool.not_true, Bool.not_false, cond_true, cond_false, List.length_map]) hc9
              obtain ⟨r8, hr8, hc9⟩ := bind_some hc9
              (conv => whnf)
              (repeat (first | ((conv => whnf); (with_reducible refine And.intro ?_ ?_); (focus (first | exact Eq.refl _ | exact trivial | exact Int.natCast_nonneg _ | assumption | exact Nat.le_of_ble_eq_true (Eq.refl true) | decide))))); (conv => whnf)
              refine Exists.intro [] ?_
              (repeat (first | ((conv => whnf); (with_reducible refine And.intro ?_ ?_); (focus (first | exact Eq.refl _ | exact trivial | exact Int.natCast_nonneg _ | assumption | exact Nat.le_of_ble_eq_true (Eq.refl true) | decide))))); (conv => whnf)
              refine CallsX.mono (CallsX.weak (rn []) (values_noSet_ok toArray.fSet _ hr8) rfl (WS.mk (wt_cons (wd_agg (wl_cons (WE.refl _) (wl_cons (WE.refl _) wl_nil))) wt_nil) wb_nil)) ?_
              rintro d b ⟨rfl, rfl⟩
              (repeat (first | ((conv => whnf); (with_reducible refine And.intro ?_ ?_); (focus (first | exact Eq.refl _ | exact trivial | exact Int.natCast_nonneg _ | assumption | exact Nat.le_of_ble_eq_true (Eq.refl true) | decide))))); (conv => whnf)
              obtain rfl := some_eq hc9
              obtain rfl := some_eq hc10
              (repeat (first | ((conv => whnf); (with_reducible refine And.intro ?_ ?_); (focus (first | exact Eq.refl _ | exact trivial | exact Int.natCast_nonneg _ | assumption | exact Nat.le_of_ble_eq_true (Eq.refl true) | decide))))); (conv => whnf)
              exact Exists.intro (rn []) (WS.mk (wt_cons wd_ptr (wt_cons (wd_c (we_b (by first | exact Eq.refl _ | simp only [hc11, hc18, hc19, hc20, Bool.and_true, Bool.true_and, Bool.and_false, Bool.false_and, Bool.or_true, Bool.true_or, Bool.or_false, Bool.false_or, Bool.not_true, Bool.not_false, cond_true, cond_false, List.length_map]))) wt_nil)) (wb_cons rfl (wc_c (WE.refl _) (wc_c (WE.refl _) (wc_c (WE.refl _) (wc_c (WE.refl _) (wc_c (WE.refl _) (wc_c (WE.refl _) wc_nil)))))) wb_nil))
            · have hc9 := if_else (by first | assumption | exact Eq.refl _ | simp only [hc11, hc18, hc19, hc20, Bool.and_true, Bool.true_and, Bool.and_false, Bool.false_and, Bool.or_true, Bool.true_or, Bool.or_false, Bool.false_or, Bool.not_true, Bool.not_false, cond_true, cond_false, List.length_map]) hc9
              (conv => whnf)
              obtain rfl := some_eq hc9
              obtain rfl := some_eq hc10
              (repeat (first | ((conv => whnf); (with_reducible refine And.intro ?_ ?_); (focus (first | exact Eq.refl _ | exact trivial | exact Int.natCast_nonneg _ | assumption | exact Nat.le_of_ble_eq_true (Eq.refl true) | decide))))); (conv => whnf)
              exact Exists.intro (rn []) (WS.mk (wt_cons wd_ptr (wt_cons (wd_c (we_b (by first | exact Eq.refl _ | simp only [hc11, hc18, hc19, hc20, Bool.and_true, Bool.true_and, Bool.and_false, Bool.false_and, Bool.or_true, Bool.true_or, Bool.or_false, Bool.false_or, Bool.not_true, Bool.not_false, cond_true, cond_false, List.length_map]))) wt_nil)) (wb_cons rfl (wc_c (WE.refl _) (wc_c (WE.refl _) (wc_c (WE.refl _) (wc_c (WE.refl _) (wc_c (WE.refl _) (wc_c (WE.refl _) wc_nil)))))) wb_nil))
        · (conv => whnf)
          have hc10 := if_else (by first | assumption | exact Eq.refl _ | simp only [hc11, hc18, Bool.and_true, Bool.true_and, Bool.and_false, Bool.false_and, Bool.or_true, Bool.true_or, Bool.or_false, Bool.false_or, Bool.not_true, Bool.not_false, cond_true, cond_false, List.length_map]) hc10
          obtain ⟨c9, hc9, hc10⟩ := bind_some hc10
          (repeat (first | ((conv => whnf); (with_reducible refine And.intro ?_ ?_); (focus (first | exact Eq.refl _ | exact trivial | exact Int.natCast_nonneg _ | assumption | exact Nat.le_of_ble_eq_true (Eq.refl true) | decide))))); (conv => whnf)
          refine branchG_intro true (fun hc21 => ?_) (fun hc21 => ?_)
          · have hc9 := if_then (by first | assumption | exact Eq.refl _ | simp only [hc11, hc18, hc21, Bool.and_true, Bool.true_and, Bool.and_false, Bool.false_and, Bool.or_true, Bool.true_or, Bool.or_false, Bool.false_or, Bool.not_true, Bool.not_false, cond_true, cond_false, List.length_map]) hc9
            obtain ⟨r8, hr8, hc9⟩ := bind_some hc9
            (conv => whnf)
            (repeat (first | ((conv => whnf); (with_reducible refine And.intro ?_ ?_); (focus (first | exact Eq.refl _ | exact trivial | exact Int.natCast_nonneg _ | assumption | exact Nat.le_of_ble_eq_true (Eq.refl true) | decide))))); (conv => whnf)
            refine Exists.intro [] ?_
            (repeat (first | ((conv => whnf); (with_reducible refine And.intro ?_ ?_); (focus (first | exact Eq.refl _ | exact trivial | exact Int.natCast_nonneg _ | assumption | exact Nat.le_of_ble_eq_true (Eq.refl true) | decide))))); (conv => whnf)
            refine CallsX.mono (CallsX.weak (rn []) (values_noSet_ok toArray.fSet _ hr8) rfl (WS.mk (wt_cons (wd_agg (wl_cons (WE.refl _) (wl_cons (WE.refl _) wl_nil))) wt_nil) wb_nil)) ?_
            rintro d b ⟨rfl, rfl⟩
            (repeat (first | ((conv => whnf); (with_reducible refine And.intro ?_ ?_); (focus (first | exact Eq.refl _ | exact trivial | exact Int.natCast_nonneg _ | assumption | exact Nat.le_of_ble_eq_true (Eq.refl true) | decide))))); (conv => whnf)
            obtain rfl := some_eq hc9
            obtain rfl := some_eq hc10
            (repeat (first | ((conv => whnf); (with_reducible refine And.intro ?_ ?_); (focus (first | exact Eq.refl _ | exact trivial | exact Int.natCast_nonneg _ | assumption | exact Nat.le_of_ble_eq_true (Eq.refl true) | decide))))); (conv => whnf)
            exact Exists.intro (rn []) (WS.mk (wt_cons wd_ptr (wt_cons (wd_c (we_b (by first | exact Eq.refl _ | simp only [hc11, hc18, hc21, Bool.and_true, Bool.true_and, Bool.and_false, Bool.false_and, Bool.or_true, Bool.true_or, Bool.or_false, Bool.false_or, Bool.not_true, Bool.not_false, cond_true, cond_false, List.length_map]))) wt_nil)) (wb_cons rfl (wc_c (WE.refl _) (wc_c (WE.refl _) (wc_c (WE.refl _) (wc_c (WE.refl _) (wc_c (WE.refl _) (wc_c (WE.refl _) wc_nil)))))) wb_nil))
          · have hc9 := if_else (by first | assumption | exact Eq.refl _ | simp only [hc11, hc18, hc21, Bool.and_true, Bool.true_and, Bool.and_false, Bool.false_and, Bool.or_true, Bool.true_or, Bool.or_false, Bool.false_or, Bool.not_true, Bool.not_false, cond_true, cond_false, List.length_map]) hc9
            (conv => whnf)
            obtain rfl := some_eq hc9
            obtain rfl := some_eq hc10
            (repeat (first | ((conv => whnf); (with_reducible refine And.intro ?_ ?_); (focus (first | exact Eq.refl _ | exact trivial | exact Int.natCast_nonneg _ | assumption | exact Nat.le_of_ble_eq_true (Eq.refl true) | decide))))); (conv => whnf)
            exact Exists.intro (rn []) (WS.mk (wt_cons wd_ptr (wt_cons (wd_c (we_b (by first | exact Eq.refl _ | simp only [hc11, hc18, hc21, Bool.and_true, Bool.true_and, Bool.and_false, Bool.false_and, Bool.or_true, Bool.true_or, Bool.or_false, Bool.false_or, Bool.not_true, Bool.not_false, cond_true, cond_false, List.length_map]))) wt_nil)) (wb_cons rfl (wc_c (WE.refl _) (wc_c (WE.refl _) (wc_c (WE.refl _) (wc_c (WE.refl _) (wc_c (WE.refl _) (wc_c (WE.refl _) wc_nil)))))) wb_nil))
    obtain ⟨r0, hw⟩ := hw
    (conv => whnf)
    refine AWP.weak r0 hw ?_
    refine nd (by decide) _ _ _ ?_
    (conv => whnf)
    refine branch_hF hF (fun hc22 hF => ?_) (fun hc22 hF => ?_)
    · refine AWP.seq ?_
      refine nd (by decide) _ _ _ ?_
      (repeat (first | ((conv => whnf); (with_reducible refine And.intro ?_ ?_); (focus (first | exact Eq.refl _ | exact trivial | exact Int.natCast_nonneg _ | assumption | exact Nat.le_of_ble_eq_true (Eq.refl true) | decide))))); (conv => whnf)
      obtain rfl := some_eq hF
      refine nd (by decide) _ _ _ ?_
      (repeat (first | ((conv => whnf); (with_reducible refine And.intro ?_ ?_); (focus (first | exact Eq.refl _ | exact trivial | exact Int.natCast_nonneg _ | assumption | exact Nat.le_of_ble_eq_true (Eq.refl true) | decide))))); (conv => whnf)
      exact Exists.intro (rn []) (WS.mk (wt_cons (wd_c (WE.refl _)) wt_nil) wb_nil)
    · refine nd (by decide) _ _ _ ?_
      (conv => whnf)
      refine AWP.seq ?_
      refine AWP.seq ?_
      refine nd (by decide) _ _ _ ?_
      (repeat (first | ((conv => whnf); (with_reducible refine And.intro ?_ ?_); (focus (first | exact Eq.refl _ | exact trivial | exact Int.natCast_nonneg _ | assumption | exact Nat.le_of_ble_eq_true (Eq.refl true) | decide))))); (conv => whnf)
      refine AWP.block ?_
      refine AWP.seq ?_
      refine AWP.seq ?_
      refine nd (by decide) _ _ _ ?_
      (repeat (first | ((conv => whnf); (with_reducible refine And.intro ?_ ?_); (focus (first | exact Eq.refl _ | exact trivial | exact Int.natCast_nonneg _ | assumption | exact Nat.le_of_ble_eq_true (Eq.refl true) | decide))))); (conv => whnf)
      refine nd (by decide) _ _ _ ?_
      (conv => whnf)
      refine branch_hF hF (fun hc65 hF => ?_) (fun hc65 hF => ?_)
      · refine nd (by decide) _ _ _ ?_
        (conv => whnf)
        refine AWP.weak (rn []) ?_ (ih_values_formed_k1 toArray (toArray.fOp == 1) _ hF)
        exact (WS.mk (wt_cons wd_ptr (wt_cons (wd_c (WE.refl _)) (wt_cons (wd_c (WE.refl _)) wt_nil))) (wb_cons rfl (wc_c (WE.refl _) (wc_c (WE.refl _) (wc_c (WE.refl _) (wc_c (WE.refl _) (wc_c (WE.refl _) (wc_c (WE.refl _) wc_nil)))))) wb_nil))
      · refine AWP.seq ?_
        refine nd (by decide) _ _ _ ?_
        (repeat (first | ((conv => whnf); (with_reducible refine And.intro ?_ ?_); (focus (first | exact Eq.refl _ | exact trivial | exact Int.natCast_nonneg _ | assumption | exact Nat.le_of_ble_eq_true (Eq.refl true) | decide))))); (conv => whnf)
        refine nd (by decide) _ _ _ ?_
        (conv => whnf)
        refine branch_hF hF (fun hc66 hF => ?_) (fun hc66 hF => ?_)
        · refine nd (by decide) _ _ _ ?_
          (conv => whnf)
          refine AWP.weak (rn []) ?_ (ih_values_formed_k1 toArray (toArray.fOp == 4) _ hF)
          exact (WS.mk (wt_cons wd_ptr (wt_cons (wd_c (WE.refl _)) (wt_cons (wd_c (WE.refl _)) wt_nil))) (wb_cons rfl (wc_c (WE.refl _) (wc_c (WE.refl _) (wc_c (WE.refl _) (wc_c (WE.refl _) (wc_c (WE.refl _) (wc_c (WE.refl _) wc_nil)))))) wb_nil))
        · refine nd (by decide) _ _ _ ?_
          (repeat (first | ((conv => whnf); (with_reducible refine And.intro ?_ ?_); (focus (first | exact Eq.refl _ | exact trivial | exact Int.natCast_nonneg _ | assumption | exact Nat.le_of_ble_eq_true (Eq.refl true) | decide))))); (conv => whnf)
          refine AWP.weak (rn []) ?_ (ih_values_formed_k1 toArray (toArray.fOp == 6) _ hF)
          exact (WS.mk (wt_cons wd_ptr (wt_cons (wd_c (WE.refl _)) (wt_cons (wd_c (WE.refl _)) wt_nil))) (wb_cons rfl (wc_c (WE.refl _) (wc_c (WE.refl _) (wc_c (WE.refl _) (wc_c (WE.refl _) (wc_c (WE.refl _) (wc_c (WE.refl _) wc_nil)))))) wb_nil))
  · intro values_formed_l2' ih_values_formed_l2 toArray x_53 r hF
    unfold values_formed_k1.M
    refine nd (by decide) _ _ _ ?_
    (conv => whnf)
    refine branch_hF hF (fun hc25 hF => ?_) (fun hc25 hF => ?_)
    · refine AWP.seq ?_
      refine nd (by decide) _ _ _ ?_
      (repeat (first | ((conv => whnf); (with_reducible refine And.intro ?_ ?_); (focus (first | exact Eq.refl _ | exact trivial | exact Int.natCast_nonneg _ | assumption | exact Nat.le_of_ble_eq_true (Eq.refl true) | decide))))); (conv => whnf)
      obtain rfl := some_eq hF
      refine nd (by decide) _ _ _ ?_
      (repeat (first | ((conv => whnf); (with_reducible refine And.intro ?_ ?_); (focus (first | exact Eq.refl _ | exact trivial | exact Int.natCast_nonneg _ | assumption | exact Nat.le_of_ble_eq_true (Eq.refl true) | decide))))); (conv => whnf)
      exact Exists.intro (rn []) (WS.mk (wt_cons (wd_c (WE.refl _)) wt_nil) wb_nil)
    · refine AWP.seq ?_
      refine nd (by decide) _ _ _ ?_
      (repeat (first | ((conv => whnf); (with_reducible refine And.intro ?_ ?_); (focus (first | exact Eq.refl _ | exact trivial | exact Int.natCast_nonneg _ | assumption | exact Nat.le_of_ble_eq_true (Eq.refl true) | decide))))); (conv => whnf)
      refine nd (by decide) _ _ _ ?_
      (conv => whnf)
      refine branch_hF hF (fun hc26 hF => ?_) (fun hc26 hF => ?_)
      · refine AWP.seq ?_
        refine AWP.cutN (fun T => ∃ r, WS r T ⟨[(2, .c none (.v (.bool ((decide (toArray.fN ≥ 0)) && (decide (toArray.fN ≤ 255))))))], []⟩) ?_ (fun T hw => ?_)
        · refine nd (by decide) _ _ _ ?_
          (repeat (first | ((conv => whnf); (with_reducible refine And.intro ?_ ?_); (focus (first | exact Eq.refl _ | exact trivial | exact Int.natCast_nonneg _ | assumption | exact Nat.le_of_ble_eq_true (Eq.refl true) | decide))))); (conv => whnf)
          refine branchG_intro true (fun hc27 => ?_) (fun hc27 => ?_)
          · (conv => whnf)
            (repeat (first | ((conv => whnf); (with_reducible refine And.intro ?_ ?_); (focus (first | exact Eq.refl _ | exact trivial | exact Int.natCast_nonneg _ | assumption | exact Nat.le_of_ble_eq_true (Eq.refl true) | decide))))); (conv => whnf)
            exact Exists.intro (rn []) (WS.mk (wt_cons (wd_c (we_b (by first | exact Eq.refl _ | simp only [hc27, Bool.and_true, Bool.true_and, Bool.and_false, Bool.false_and, Bool.or_true, Bool.true_or, Bool.or_false, Bool.false_or, Bool.not_true, Bool.not_false, cond_true, cond_false, List.length_map]))) wt_nil) wb_nil)
          · (conv => whnf)
            (repeat (first | ((conv => whnf); (with_reducible refine And.intro ?_ ?_); (focus (first | exact Eq.refl _ | exact trivial | exact Int.natCast_nonneg _ | assumption | exact Nat.le_of_ble_eq_true (Eq.refl true) | decide))))); (conv => whnf)
            exact Exists.intro (rn []) (WS.mk (wt_cons (wd_c (we_b (by first | exact Eq.refl _ | simp only [hc27, Bool.and_true, Bool.true_and, Bool.and_false, Bool.false_and, Bool.or_true, Bool.true_or, Bool.or_false, Bool.false_or, Bool.not_true, Bool.not_false, cond_true, cond_false, List.length_map]))) wt_nil) wb_nil)
        obtain ⟨r0, hw⟩ := hw
        (conv => whnf)
        refine AWP.weak r0 hw ?_
        obtain rfl := some_eq hF
        refine nd (by decide) _ _ _ ?_
        (repeat (first | ((conv => whnf); (with_reducible refine And.intro ?_ ?_); (focus (first | exact Eq.refl _ | exact trivial | exact Int.natCast_nonneg _ | assumption | exact Nat.le_of_ble_eq_true (Eq.refl true) | decide))))); (conv => whnf)
        exact Exists.intro (rn []) (WS.mk (wt_cons (wd_c (WE.refl _)) wt_nil) wb_nil)
      · refine AWP.seq ?_
        refine nd (by decide) _ _ _ ?_
        (repeat (first | ((conv => whnf); (with_reducible refine And.intro ?_ ?_); (focus (first | exact Eq.refl _ | exact trivial | exact Int.natCast_nonneg _ | assumption | exact Nat.le_of_ble_eq_true (Eq.refl true) | decide))))); (conv => whnf)
        refine nd (by decide) _ _ _ ?_
        (conv => whnf)
        refine branch_hF hF (fun hc28 hF => ?_) (fun hc28 hF => ?_)
        · refine AWP.seq ?_
          obtain ⟨r29, hr29, hF⟩ := bind_some hF
          refine nd (by decide) _ _ _ ?_
          (repeat (first | ((conv => whnf); (with_reducible refine And.intro ?_ ?_); (focus (first | exact Eq.refl _ | exact trivial | exact Int.natCast_nonneg _ | assumption | exact Nat.le_of_ble_eq_true (Eq.refl true) | decide))))); (conv => whnf)
          refine Exists.intro [] ?_
          (repeat (first | ((conv => whnf); (with_reducible refine And.intro ?_ ?_); (focus (first | exact Eq.refl _ | exact trivial | exact Int.natCast_nonneg _ | assumption | exact Nat.le_of_ble_eq_true (Eq.refl true) | decide))))); (conv => whnf)
          refine CallsX.mono (CallsX.weak (rn []) (values_validSet_ok toArray.fSet _ hr29) rfl (WS.mk (wt_cons (wd_agg (wl_cons (WE.refl _) (wl_cons (WE.refl _) wl_nil))) wt_nil) wb_nil)) ?_
          rintro d b ⟨rfl, rfl⟩
          (repeat (first | ((conv => whnf); (with_reducible refine And.intro ?_ ?_); (focus (first | exact Eq.refl _ | exact trivial | exact Int.natCast_nonneg _ | assumption | exact Nat.le_of_ble_eq_true (Eq.refl true) | decide))))); (conv => whnf)
          (repeat (first | ((conv => whnf); (with_reducible refine And.intro ?_ ?_); (focus (first | exact Eq.refl _ | exact trivial | exact Int.natCast_nonneg _ | assumption | exact Nat.le_of_ble_eq_true (Eq.refl true) | decide))))); (conv => whnf)
          obtain rfl := some_eq hF
          refine nd (by decide) _ _ _ ?_
          (repeat (first | ((conv => whnf); (with_reducible refine And.intro ?_ ?_); (focus (first | exact Eq.refl _ | exact trivial | exact Int.natCast_nonneg _ | assumption | exact Nat.le_of_ble_eq_true (Eq.refl true) | decide))))); (conv => whnf)
          exact Exists.intro (rn []) (WS.mk (wt_cons (wd_c (WE.refl _)) wt_nil) wb_nil)
        · refine AWP.seq ?_
          refine nd (by decide) _ _ _ ?_
          (repeat (first | ((conv => whnf); (with_reducible refine And.intro ?_ ?_); (focus (first | exact Eq.refl _ | exact trivial | exact Int.natCast_nonneg _ | assumption | exact Nat.le_of_ble_eq_true (Eq.refl true) | decide))))); (conv => whnf)
          refine nd (by decide) _ _ _ ?_
          (conv => whnf)
          refine branch_hF hF (fun hc30 hF => ?_) (fun hc30 hF => ?_)
          · refine AWP.seq ?_
            refine AWP.seq ?_
            refine nd (by decide) _ _ _ ?_
            (repeat (first | ((conv => whnf); (with_reducible refine And.intro ?_ ?_); (focus (first | exact Eq.refl _ | exact trivial | exact Int.natCast_nonneg _ | assumption | exact Nat.le_of_ble_eq_true (Eq.refl true) | decide))))); (conv => whnf)
            intro hlen47
            (try rw [List.length_map] at hlen47)
            (try rw [List.length_map])
            (repeat (first | ((conv => whnf); (with_reducible refine And.intro ?_ ?_); (focus (first | exact Eq.refl _ | exact trivial | exact Int.natCast_nonneg _ | assumption | exact Nat.le_of_ble_eq_true (Eq.refl true) | decide))))); (conv => whnf)
            refine AWP.block ?_
            refine AWP.loop ?_
            refine AWL.weak (rn []) ?_ (ih_values_formed_l2 toArray 0 toArray.fKids _ hF ([]) rfl rfl hlen47)
            exact (WS.mk (wt_cons wd_ptr (wt_cons (wd_c (WE.refl _)) (wt_cons (wd_c (WE.refl _)) (wt_cons (wd_c (WE.refl _)) wt_nil)))) (wb_cons rfl (wc_c (WE.refl _) (wc_c (WE.refl _) (wc_c (WE.refl _) (wc_c (WE.refl _) (wc_c (WE.refl _) (wc_c (WE.refl _) wc_nil)))))) wb_nil))
          · refine nd (by decide) _ _ _ ?_
            (conv => whnf)
            refine AWP.seq ?_
            refine nd (by decide) _ _ _ ?_
            (repeat (first | ((conv => whnf); (with_reducible refine And.intro ?_ ?_); (focus (first | exact Eq.refl _ | exact trivial | exact Int.natCast_nonneg _ | assumption | exact Nat.le_of_ble_eq_true (Eq.refl true) | decide))))); (conv => whnf)
            obtain rfl := some_eq hF
            refine nd (by decide) _ _ _ ?_
            (repeat (first | ((conv => whnf); (with_reducible refine And.intro ?_ ?_); (focus (first | exact Eq.refl _ | exact trivial | exact Int.natCast_nonneg _ | assumption | exact Nat.le_of_ble_eq_true (Eq.refl true) | decide))))); (conv => whnf)
            exact Exists.intro (rn []) (WS.mk (wt_cons (wd_c (WE.refl _)) wt_nil) wb_nil)
  · intro values_formed' values_formed_l2' ih_values_formed ih_values_formed_l2 toArray x_77 x_77_s_ r hF
    unfold values_formed_l2.M
    intro pre_x_77 hs_x_77 hk_x_77 hlen47
    refine AWL.step ?_
    refine AWP.seq ?_
    refine nd (by decide) _ _ _ ?_
    (repeat (first | ((conv => whnf); (with_reducible refine And.intro ?_ ?_); (focus (first | exact Eq.refl _ | exact trivial | exact Int.natCast_nonneg _ | assumption | exact Nat.le_of_ble_eq_true (Eq.refl true) | decide))))); (conv => whnf)
    refine AWP.seq ?_
    refine nd (by decide) _ _ _ ?_
    (conv => whnf)
    refine branch_list hs_x_77 hk_x_77 (fun x59 xs60 hp61 hx61 hl61 => ?_) (fun hp61 => ?_)
    · subst hp61
      refine nd (by decide) _ _ _ ?_
      (conv => whnf)
      refine AWP.seq ?_
      refine AWP.block ?_
      refine AWP.seq ?_
      refine nd (by decide) _ _ _ ?_
      (repeat (first | ((conv => whnf); (with_reducible refine And.intro ?_ ?_); (focus (first | exact Eq.refl _ | exact trivial | exact Int.natCast_nonneg _ | assumption | exact Nat.le_of_ble_eq_true (Eq.refl true) | decide))) | ((conv => whnf); rw [map_get (TValue.cells_eq x59) hx61]))); (conv => whnf)
      (repeat (first | ((conv => whnf); (with_reducible refine And.intro ?_ ?_); (focus (first | exact Eq.refl _ | exact trivial | exact Int.natCast_nonneg _ | assumption | exact Nat.le_of_ble_eq_true (Eq.refl true) | decide))))); (conv => whnf)
      refine AWP.seq ?_
      obtain ⟨r62, hr62, hF⟩ := bind_some hF
      refine nd (by decide) _ _ _ ?_
      (repeat (first | ((conv => whnf); (with_reducible refine And.intro ?_ ?_); (focus (first | exact Eq.refl _ | exact trivial | exact Int.natCast_nonneg _ | assumption | exact Nat.le_of_ble_eq_true (Eq.refl true) | decide))))); (conv => whnf)
      refine Exists.intro [] ?_
      (repeat (first | ((conv => whnf); (with_reducible refine And.intro ?_ ?_); (focus (first | exact Eq.refl _ | exact trivial | exact Int.natCast_nonneg _ | assumption | exact Nat.le_of_ble_eq_true (Eq.refl true) | decide))))); (conv => whnf)
      refine CallsX.mono (CallsX.weak (rn []) (ih_values_formed x59 _ hr62) rfl (WS.mk (wt_cons (wd_agg (wl_cons (WE.refl _) (wl_cons (WE.refl _) (wl_cons (WE.refl _) (wl_cons (WE.refl _) (wl_cons (WE.refl _) (wl_cons (WE.refl _) wl_nil))))))) wt_nil) wb_nil)) ?_
      rintro d b ⟨rfl, rfl⟩
      (repeat (first | ((conv => whnf); (with_reducible refine And.intro ?_ ?_); (focus (first | exact Eq.refl _ | exact trivial | exact Int.natCast_nonneg _ | assumption | exact Nat.le_of_ble_eq_true (Eq.refl true) | decide))))); (conv => whnf)
      (repeat (first | ((conv => whnf); (with_reducible refine And.intro ?_ ?_); (focus (first | exact Eq.refl _ | exact trivial | exact Int.natCast_nonneg _ | assumption | exact Nat.le_of_ble_eq_true (Eq.refl true) | decide))))); (conv => whnf)
      refine nd (by decide) _ _ _ ?_
      (conv => whnf)
      refine branch_hF hF (fun hc63 hF => ?_) (fun hc63 hF => ?_)
      · refine AWP.seq ?_
        refine nd (by decide) _ _ _ ?_
        (repeat (first | ((conv => whnf); (with_reducible refine And.intro ?_ ?_); (focus (first | exact Eq.refl _ | exact trivial | exact Int.natCast_nonneg _ | assumption | exact Nat.le_of_ble_eq_true (Eq.refl true) | decide))))); (conv => whnf)
        obtain rfl := some_eq hF
        refine nd (by decide) _ _ _ ?_
        (repeat (first | ((conv => whnf); (with_reducible refine And.intro ?_ ?_); (focus (first | exact Eq.refl _ | exact trivial | exact Int.natCast_nonneg _ | assumption | exact Nat.le_of_ble_eq_true (Eq.refl true) | decide))))); (conv => whnf)
        exact Exists.intro (rn []) (WS.mk (wt_cons (wd_c (WE.refl _)) wt_nil) wb_nil)
      · refine nd (by decide) _ _ _ ?_
        (conv => whnf)
        refine nd (by decide) _ _ _ ?_
        (repeat (first | ((conv => whnf); (with_reducible refine And.intro ?_ ?_); (focus (first | exact Eq.refl _ | exact trivial | exact Int.natCast_nonneg _ | assumption | exact Nat.le_of_ble_eq_true (Eq.refl true) | decide))))); (conv => whnf)
        refine AWL.weak (rn []) ?_ (ih_values_formed_l2 toArray (x_77 + 1) xs60 _ hF (pre_x_77 ++ [x59]) (by rw [hs_x_77]; simp) (by rw [hk_x_77]; simp) hlen47)
        exact (WS.mk (wt_cons wd_ptr (wt_cons (wd_c (WE.refl _)) (wt_cons (wd_c (WE.refl _)) (wt_cons (wd_c (we_i (wrap_succ hlen47 hl61))) wt_nil)))) (wb_cons rfl (wc_c (WE.refl _) (wc_c (WE.refl _) (wc_c (WE.refl _) (wc_c (WE.refl _) (wc_c (WE.refl _) (wc_c (WE.refl _) wc_nil)))))) wb_nil))
    · subst hp61
      refine nd (by decide) _ _ _ ?_
      (conv => whnf)
      refine AWP.seq ?_
      obtain ⟨r64, hr64, hF⟩ := bind_some hF
      refine nd (by decide) _ _ _ ?_
      (repeat (first | ((conv => whnf); (with_reducible refine And.intro ?_ ?_); (focus (first | exact Eq.refl _ | exact trivial | exact Int.natCast_nonneg _ | assumption | exact Nat.le_of_ble_eq_true (Eq.refl true) | decide))))); (conv => whnf)
      refine Exists.intro [] ?_
      (repeat (first | ((conv => whnf); (with_reducible refine And.intro ?_ ?_); (focus (first | exact Eq.refl _ | exact trivial | exact Int.natCast_nonneg _ | assumption | exact Nat.le_of_ble_eq_true (Eq.refl true) | decide))))); (conv => whnf)
      refine CallsX.mono (CallsX.weak (rn []) (values_constructor_ok toArray.fName _ hr64) rfl (WS.mk (wt_cons (wd_c (WE.refl _)) wt_nil) wb_nil)) ?_
      rintro d b ⟨rfl, rfl⟩
      (repeat (first | ((conv => whnf); (with_reducible refine And.intro ?_ ?_); (focus (first | exact Eq.refl _ | exact trivial | exact Int.natCast_nonneg _ | assumption | exact Nat.le_of_ble_eq_true (Eq.refl true) | decide))))); (conv => whnf)
      (repeat (first | ((conv => whnf); (with_reducible refine And.intro ?_ ?_); (focus (first | exact Eq.refl _ | exact trivial | exact Int.natCast_nonneg _ | assumption | exact Nat.le_of_ble_eq_true (Eq.refl true) | decide))))); (conv => whnf)
      obtain rfl := some_eq hF
      refine nd (by decide) _ _ _ ?_
      (repeat (first | ((conv => whnf); (with_reducible refine And.intro ?_ ?_); (focus (first | exact Eq.refl _ | exact trivial | exact Int.natCast_nonneg _ | assumption | exact Nat.le_of_ble_eq_true (Eq.refl true) | decide))))); (conv => whnf)
      exact Exists.intro (rn []) (WS.mk (wt_cons (wd_c (WE.refl _)) wt_nil) wb_nil)
theorem values_formed_ok : ∀ (toArray : TValue), ∀ r, values_formed toArray = some r → values_formed.M toArray r := values_formed_all.1
theorem values_formed_k1_ok : ∀ (toArray : TValue) (x_53 : Bool), ∀ r, values_formed_k1 toArray x_53 = some r → values_formed_k1.M toArray x_53 r := values_formed_all.2.1
theorem values_formed_l2_ok : ∀ (toArray : TValue) (x_77 : Nat) (x_77_s_ : (List TValue)), ∀ r, values_formed_l2 toArray x_77 x_77_s_ = some r → values_formed_l2.M toArray x_77 x_77_s_ r := values_formed_all.2.2
end Go.Proofs.YtafniolcakiljaaDoor

set_option linter.unusedVariables false
set_option linter.unusedSimpArgs false
set_option maxRecDepth 100000
set_option maxHeartbeats 4000000
namespace Go.Proofs.YtafniolcakiljaaDoor
open Go Go.Am
mutual
def values_size (v : TValue) : Option (Int) :=
  values_size_l1 1 v 0 v.fKids
  partial_fixpoint
def values_size_l1 (n_3 : Int) (v : TValue) (x_9 : Nat) (x_9_s_ : (List TValue)) : Option (Int) :=
  (match x_9_s_ with
  | x11 :: xs12 =>
  values_size x11 >>= fun r14 =>
  values_size_l1 (IntKind.i64.wrap (n_3 + r14)) v (x_9 + 1) xs12
  | [] =>
  some n_3)
  partial_fixpoint
end
def values_size.M (v : TValue) (r : Int) : Prop :=
  CallsX Tryd.prog 42 [.agg [.v (.int .i64 v.fOp), .v (.string v.fName), .v (.int .i64 v.fN), .sl (v.fKids.map TValue.cells), .v (.bool v.fSet.fAll), .sl (v.fSet.fList.map TExc.cells)]] [] (fun d b => d = .c none (.v (.int .i64 r)) ∧ b = [])
def values_size_l1.M (n_3 : Int) (v : TValue) (x_9 : Nat) (x_9_s_ : (List TValue)) (r : Int) : Prop :=
  ∀ pre_x_9 : List TValue, v.fKids = pre_x_9 ++ x_9_s_ → x_9 = pre_x_9.length → v.fKids.length ≤ maxLen → AWL Tryd.prog 19 (Code.sub (bodyOf Tryd.f42) [1, 1, 0, 1, 0, 0]) (Code.cont Tryd.prog 19 (bodyOf Tryd.f42) [1, 1, 0, 1, 0] (endK tab Tryd.f42.results [] (WRes (.c none (.v (.int .i64 r))) []))) ⟨[(3, .c none (.v (.int .i64 n_3))), (7, .c none (.sl (v.fKids.map TValue.cells))), (8, .c none (.v (.int .i64 ((v.fKids.length : Nat) : Int)))), (9, .c none (.v (.int .i64 ((x_9 : Nat) : Int))))], []⟩
theorem values_size_all : (∀ (v : TValue), ∀ r, values_size v = some r → values_size.M v r) ∧ (∀ (n_3 : Int) (v : TValue) (x_9 : Nat) (x_9_s_ : (List TValue)), ∀ r, values_size_l1 n_3 v x_9 x_9_s_ = some r → values_size_l1.M n_3 v x_9 x_9_s_ r) := by
  refine values_size.mutual_partial_correctness values_size.M values_size_l1.M ?_ ?_
  · intro values_size_l1' ih_values_size_l1 v r hF
    unfold values_size.M
    refine enter tabOk Tryd.func42 rfl (by decide) (Nat.le_of_ble_eq_true rfl) rfl rfl rfl ?_
    refine AWP.seq ?_
    refine nd (by decide) _ _ _ ?_
    (repeat (first | ((conv => whnf); (with_reducible refine And.intro ?_ ?_); (focus (first | exact Eq.refl _ | exact trivial | exact Int.natCast_nonneg _ | assumption | exact Nat.le_of_ble_eq_true (Eq.refl true) | decide))))); (conv => whnf)
    refine AWP.seq ?_
    refine nd (by decide) _ _ _ ?_
    (repeat (first | ((conv => whnf); (with_reducible refine And.intro ?_ ?_); (focus (first | exact Eq.refl _ | exact trivial | exact Int.natCast_nonneg _ | assumption | exact Nat.le_of_ble_eq_true (Eq.refl true) | decide))))); (conv => whnf)
    refine AWP.seq ?_
    refine AWP.seq ?_
    refine nd (by decide) _ _ _ ?_
    (repeat (first | ((conv => whnf); (with_reducible refine And.intro ?_ ?_); (focus (first | exact Eq.refl _ | exact trivial | exact Int.natCast_nonneg _ | assumption | exact Nat.le_of_ble_eq_true (Eq.refl true) | decide))))); (conv => whnf)
    intro hlen1
    (try rw [List.length_map] at hlen1)
    (try rw [List.length_map])
    (repeat (first | ((conv => whnf); (with_reducible refine And.intro ?_ ?_); (focus (first | exact Eq.refl _ | exact trivial | exact Int.natCast_nonneg _ | assumption | exact Nat.le_of_ble_eq_true (Eq.refl true) | decide))))); (conv => whnf)
    refine AWP.block ?_
    refine AWP.loop ?_
    refine AWL.weak (rn []) ?_ (ih_values_size_l1 1 v 0 v.fKids _ hF ([]) rfl rfl hlen1)
    exact (WS.mk (wt_cons (wd_c (WE.refl _)) (wt_cons (wd_c (WE.refl _)) (wt_cons (wd_c (WE.refl _)) (wt_cons (wd_c (WE.refl _)) wt_nil)))) wb_nil)
  · intro values_size' values_size_l1' ih_values_size ih_values_size_l1 n_3 v x_9 x_9_s_ r hF
    unfold values_size_l1.M
    intro pre_x_9 hs_x_9 hk_x_9 hlen1
    refine AWL.step ?_
    refine AWP.seq ?_
    refine nd (by decide) _ _ _ ?_
    (repeat (first | ((conv => whnf); (with_reducible refine And.intro ?_ ?_); (focus (first | exact Eq.refl _ | exact trivial | exact Int.natCast_nonneg _ | assumption | exact Nat.le_of_ble_eq_true (Eq.refl true) | decide))))); (conv => whnf)
    refine AWP.seq ?_
    refine nd (by decide) _ _ _ ?_
    (conv => whnf)
    refine branch_list hs_x_9 hk_x_9 (fun x11 xs12 hp13 hx13 hl13 => ?_) (fun hp13 => ?_)
    · subst hp13
      refine nd (by decide) _ _ _ ?_
      (conv => whnf)
      refine AWP.seq ?_
      refine AWP.block ?_
      refine AWP.seq ?_
      refine nd (by decide) _ _ _ ?_
      (repeat (first | ((conv => whnf); (with_reducible refine And.intro ?_ ?_); (focus (first | exact Eq.refl _ | exact trivial | exact Int.natCast_nonneg _ | assumption | exact Nat.le_of_ble_eq_true (Eq.refl true) | decide))) | ((conv => whnf); rw [map_get (TValue.cells_eq x11) hx13]))); (conv => whnf)
      (repeat (first | ((conv => whnf); (with_reducible refine And.intro ?_ ?_); (focus (first | exact Eq.refl _ | exact trivial | exact Int.natCast_nonneg _ | assumption | exact Nat.le_of_ble_eq_true (Eq.refl true) | decide))))); (conv => whnf)
      obtain ⟨r14, hr14, hF⟩ := bind_some hF
      refine nd (by decide) _ _ _ ?_
      (repeat (first | ((conv => whnf); (with_reducible refine And.intro ?_ ?_); (focus (first | exact Eq.refl _ | exact trivial | exact Int.natCast_nonneg _ | assumption | exact Nat.le_of_ble_eq_true (Eq.refl true) | decide))))); (conv => whnf)
      refine Exists.intro [] ?_
      (repeat (first | ((conv => whnf); (with_reducible refine And.intro ?_ ?_); (focus (first | exact Eq.refl _ | exact trivial | exact Int.natCast_nonneg _ | assumption | exact Nat.le_of_ble_eq_true (Eq.refl true) | decide))))); (conv => whnf)
      refine CallsX.mono (CallsX.weak (rn []) (ih_values_size x11 _ hr14) rfl (WS.mk (wt_cons (wd_agg (wl_cons (WE.refl _) (wl_cons (WE.refl _) (wl_cons (WE.refl _) (wl_cons (WE.refl _) (wl_cons (WE.refl _) (wl_cons (WE.refl _) wl_nil))))))) wt_nil) wb_nil)) ?_
      rintro d b ⟨rfl, rfl⟩
      (repeat (first | ((conv => whnf); (with_reducible refine And.intro ?_ ?_); (focus (first | exact Eq.refl _ | exact trivial | exact Int.natCast_nonneg _ | assumption | exact Nat.le_of_ble_eq_true (Eq.refl true) | decide))))); (conv => whnf)
      (repeat (first | ((conv => whnf); (with_reducible refine And.intro ?_ ?_); (focus (first | exact Eq.refl _ | exact trivial | exact Int.natCast_nonneg _ | assumption | exact Nat.le_of_ble_eq_true (Eq.refl true) | decide))))); (conv => whnf)
      refine nd (by decide) _ _ _ ?_
      (repeat (first | ((conv => whnf); (with_reducible refine And.intro ?_ ?_); (focus (first | exact Eq.refl _ | exact trivial | exact Int.natCast_nonneg _ | assumption | exact Nat.le_of_ble_eq_true (Eq.refl true) | decide))))); (conv => whnf)
      refine AWL.weak (rn []) ?_ (ih_values_size_l1 (IntKind.i64.wrap (n_3 + r14)) v (x_9 + 1) xs12 _ hF (pre_x_9 ++ [x11]) (by rw [hs_x_9]; simp) (by rw [hk_x_9]; simp) hlen1)
      exact (WS.mk (wt_cons (wd_c (WE.refl _)) (wt_cons (wd_c (WE.refl _)) (wt_cons (wd_c (WE.refl _)) (wt_cons (wd_c (we_i (wrap_succ hlen1 hl13))) wt_nil)))) wb_nil)
    · subst hp13
      refine nd (by decide) _ _ _ ?_
      (conv => whnf)
      refine AWP.seq ?_
      refine nd (by decide) _ _ _ ?_
      (repeat (first | ((conv => whnf); (with_reducible refine And.intro ?_ ?_); (focus (first | exact Eq.refl _ | exact trivial | exact Int.natCast_nonneg _ | assumption | exact Nat.le_of_ble_eq_true (Eq.refl true) | decide))))); (conv => whnf)
      obtain rfl := some_eq hF
      refine nd (by decide) _ _ _ ?_
      (repeat (first | ((conv => whnf); (with_reducible refine And.intro ?_ ?_); (focus (first | exact Eq.refl _ | exact trivial | exact Int.natCast_nonneg _ | assumption | exact Nat.le_of_ble_eq_true (Eq.refl true) | decide))))); (conv => whnf)
      exact Exists.intro (rn []) (WS.mk (wt_cons (wd_c (WE.refl _)) wt_nil) wb_nil)
theorem values_size_ok : ∀ (v : TValue), ∀ r, values_size v = some r → values_size.M v r := values_size_all.1
theorem values_size_l1_ok : ∀ (n_3 : Int) (v : TValue) (x_9 : Nat) (x_9_s_ : (List TValue)), ∀ r, values_size_l1 n_3 v x_9 x_9_s_ = some r → values_size_l1.M n_3 v x_9 x_9_s_ r := values_size_all.2
end Go.Proofs.YtafniolcakiljaaDoor

set_option linter.unusedVariables false
set_option linter.unusedSimpArgs false
set_option maxRecDepth 100000
set_option maxHeartbeats 4000000
namespace Go.Proofs.YtafniolcakiljaaDoor
open Go Go.Am
def values_Check (v : TValue) : Option (Int) :=
  values_depth v >>= fun r3 =>
  if (decide (r3 > 1000)) = true then
  some 4
  else
  values_size v >>= fun r7 =>
  if (decide (r7 > 60000)) = true then
  some 3
  else
  values_formed v >>= fun r9 =>
  if (!r9) = true then
  some 1
  else
  some 0
def values_Check.M (v : TValue) (r : Int) : Prop :=
  CallsX Tryd.prog 15 [.agg [.v (.int .i64 v.fOp), .v (.string v.fName), .v (.int .i64 v.fN), .sl (v.fKids.map TValue.cells), .v (.bool v.fSet.fAll), .sl (v.fSet.fList.map TExc.cells)]] [] (fun d b => d = .c none (.v (.int .i64 r)) ∧ b = [])
theorem values_Check_ok (v : TValue) (r : Int) (hF : values_Check v = some r) : values_Check.M v r := by
  unfold values_Check at hF
  unfold values_Check.M
  refine enter tabOk Tryd.func15 rfl (by decide) (Nat.le_of_ble_eq_true rfl) rfl rfl rfl ?_
  refine AWP.seq ?_
  refine nd (by decide) _ _ _ ?_
  (repeat (first | ((conv => whnf); (with_reducible refine And.intro ?_ ?_); (focus (first | exact Eq.refl _ | exact trivial | exact Int.natCast_nonneg _ | assumption | exact Nat.le_of_ble_eq_true (Eq.refl true) | decide))))); (conv => whnf)
  refine AWP.seq ?_
  refine AWP.seq ?_
  obtain ⟨r3, hr3, hF⟩ := bind_some hF
  refine nd (by decide) _ _ _ ?_
  (repeat (first | ((conv => whnf); (with_reducible refine And.intro ?_ ?_); (focus (first | exact Eq.refl _ | exact trivial | exact Int.natCast_nonneg _ | assumption | exact Nat.le_of_ble_eq_true (Eq.refl true) | decide))))); (conv => whnf)
  refine Exists.intro [] ?_
  (repeat (first | ((conv => whnf); (with_reducible refine And.intro ?_ ?_); (focus (first | exact Eq.refl _ | exact trivial | exact Int.natCast_nonneg _ | assumption | exact Nat.le_of_ble_eq_true (Eq.refl true) | decide))))); (conv => whnf)
  refine CallsX.mono (CallsX.weak (rn []) (values_depth_ok v _ hr3) rfl (WS.mk (wt_cons (wd_agg (wl_cons (WE.refl _) (wl_cons (WE.refl _) (wl_cons (WE.refl _) (wl_cons (WE.refl _) (wl_cons (WE.refl _) (wl_cons (WE.refl _) wl_nil))))))) wt_nil) wb_nil)) ?_
  rintro d b ⟨rfl, rfl⟩
  (repeat (first | ((conv => whnf); (with_reducible refine And.intro ?_ ?_); (focus (first | exact Eq.refl _ | exact trivial | exact Int.natCast_nonneg _ | assumption | exact Nat.le_of_ble_eq_true (Eq.refl true) | decide))))); (conv => whnf)
  (repeat (first | ((conv => whnf); (with_reducible refine And.intro ?_ ?_); (focus (first | exact Eq.refl _ | exact trivial | exact Int.natCast_nonneg _ | assumption | exact Nat.le_of_ble_eq_true (Eq.refl true) | decide))))); (conv => whnf)
  refine nd (by decide) _ _ _ ?_
  (conv => whnf)
  refine branch_hF hF (fun hc4 hF => ?_) (fun hc4 hF => ?_)
  · refine AWP.seq ?_
    refine nd (by decide) _ _ _ ?_
    (repeat (first | ((conv => whnf); (with_reducible refine And.intro ?_ ?_); (focus (first | exact Eq.refl _ | exact trivial | exact Int.natCast_nonneg _ | assumption | exact Nat.le_of_ble_eq_true (Eq.refl true) | decide))))); (conv => whnf)
    obtain rfl := some_eq hF
    refine nd (by decide) _ _ _ ?_
    (repeat (first | ((conv => whnf); (with_reducible refine And.intro ?_ ?_); (focus (first | exact Eq.refl _ | exact trivial | exact Int.natCast_nonneg _ | assumption | exact Nat.le_of_ble_eq_true (Eq.refl true) | decide))))); (conv => whnf)
    exact Exists.intro (rn []) (WS.mk (wt_cons (wd_c (WE.refl _)) wt_nil) wb_nil)
  · refine nd (by decide) _ _ _ ?_
    (conv => whnf)
    refine AWP.seq ?_
    refine AWP.seq ?_
    obtain ⟨r7, hr7, hF⟩ := bind_some hF
    refine nd (by decide) _ _ _ ?_
    (repeat (first | ((conv => whnf); (with_reducible refine And.intro ?_ ?_); (focus (first | exact Eq.refl _ | exact trivial | exact Int.natCast_nonneg _ | assumption | exact Nat.le_of_ble_eq_true (Eq.refl true) | decide))))); (conv => whnf)
    refine Exists.intro [] ?_
    (repeat (first | ((conv => whnf); (with_reducible refine And.intro ?_ ?_); (focus (first | exact Eq.refl _ | exact trivial | exact Int.natCast_nonneg _ | assumption | exact Nat.le_of_ble_eq_true (Eq.refl true) | decide))))); (conv => whnf)
    refine CallsX.mono (CallsX.weak (rn []) (values_size_ok v _ hr7) rfl (WS.mk (wt_cons (wd_agg (wl_cons (WE.refl _) (wl_cons (WE.refl _) (wl_cons (WE.refl _) (wl_cons (WE.refl _) (wl_cons (WE.refl _) (wl_cons (WE.refl _) wl_nil))))))) wt_nil) wb_nil)) ?_
    rintro d b ⟨rfl, rfl⟩
    (repeat (first | ((conv => whnf); (with_reducible refine And.intro ?_ ?_); (focus (first | exact Eq.refl _ | exact trivial | exact Int.natCast_nonneg _ | assumption | exact Nat.le_of_ble_eq_true (Eq.refl true) | decide))))); (conv => whnf)
    (repeat (first | ((conv => whnf); (with_reducible refine And.intro ?_ ?_); (focus (first | exact Eq.refl _ | exact trivial | exact Int.natCast_nonneg _ | assumption | exact Nat.le_of_ble_eq_true (Eq.refl true) | decide))))); (conv => whnf)
    refine nd (by decide) _ _ _ ?_
    (conv => whnf)
    refine branch_hF hF (fun hc8 hF => ?_) (fun hc8 hF => ?_)
    · refine AWP.seq ?_
      refine nd (by decide) _ _ _ ?_
      (repeat (first | ((conv => whnf); (with_reducible refine And.intro ?_ ?_); (focus (first | exact Eq.refl _ | exact trivial | exact Int.natCast_nonneg _ | assumption | exact Nat.le_of_ble_eq_true (Eq.refl true) | decide))))); (conv => whnf)
      obtain rfl := some_eq hF
      refine nd (by decide) _ _ _ ?_
      (repeat (first | ((conv => whnf); (with_reducible refine And.intro ?_ ?_); (focus (first | exact Eq.refl _ | exact trivial | exact Int.natCast_nonneg _ | assumption | exact Nat.le_of_ble_eq_true (Eq.refl true) | decide))))); (conv => whnf)
      exact Exists.intro (rn []) (WS.mk (wt_cons (wd_c (WE.refl _)) wt_nil) wb_nil)
    · refine nd (by decide) _ _ _ ?_
      (conv => whnf)
      refine AWP.seq ?_
      refine AWP.seq ?_
      obtain ⟨r9, hr9, hF⟩ := bind_some hF
      refine nd (by decide) _ _ _ ?_
      (repeat (first | ((conv => whnf); (with_reducible refine And.intro ?_ ?_); (focus (first | exact Eq.refl _ | exact trivial | exact Int.natCast_nonneg _ | assumption | exact Nat.le_of_ble_eq_true (Eq.refl true) | decide))))); (conv => whnf)
      refine Exists.intro [] ?_
      (repeat (first | ((conv => whnf); (with_reducible refine And.intro ?_ ?_); (focus (first | exact Eq.refl _ | exact trivial | exact Int.natCast_nonneg _ | assumption | exact Nat.le_of_ble_eq_true (Eq.refl true) | decide))))); (conv => whnf)
      refine CallsX.mono (CallsX.weak (rn []) (values_formed_ok v _ hr9) rfl (WS.mk (wt_cons (wd_agg (wl_cons (WE.refl _) (wl_cons (WE.refl _) (wl_cons (WE.refl _) (wl_cons (WE.refl _) (wl_cons (WE.refl _) (wl_cons (WE.refl _) wl_nil))))))) wt_nil) wb_nil)) ?_
      rintro d b ⟨rfl, rfl⟩
      (repeat (first | ((conv => whnf); (with_reducible refine And.intro ?_ ?_); (focus (first | exact Eq.refl _ | exact trivial | exact Int.natCast_nonneg _ | assumption | exact Nat.le_of_ble_eq_true (Eq.refl true) | decide))))); (conv => whnf)
      (repeat (first | ((conv => whnf); (with_reducible refine And.intro ?_ ?_); (focus (first | exact Eq.refl _ | exact trivial | exact Int.natCast_nonneg _ | assumption | exact Nat.le_of_ble_eq_true (Eq.refl true) | decide))))); (conv => whnf)
      refine nd (by decide) _ _ _ ?_
      (conv => whnf)
      refine branch_hF hF (fun hc10 hF => ?_) (fun hc10 hF => ?_)
      · refine AWP.seq ?_
        refine nd (by decide) _ _ _ ?_
        (repeat (first | ((conv => whnf); (with_reducible refine And.intro ?_ ?_); (focus (first | exact Eq.refl _ | exact trivial | exact Int.natCast_nonneg _ | assumption | exact Nat.le_of_ble_eq_true (Eq.refl true) | decide))))); (conv => whnf)
        obtain rfl := some_eq hF
        refine nd (by decide) _ _ _ ?_
        (repeat (first | ((conv => whnf); (with_reducible refine And.intro ?_ ?_); (focus (first | exact Eq.refl _ | exact trivial | exact Int.natCast_nonneg _ | assumption | exact Nat.le_of_ble_eq_true (Eq.refl true) | decide))))); (conv => whnf)
        exact Exists.intro (rn []) (WS.mk (wt_cons (wd_c (WE.refl _)) wt_nil) wb_nil)
      · refine nd (by decide) _ _ _ ?_
        (conv => whnf)
        refine AWP.seq ?_
        refine nd (by decide) _ _ _ ?_
        (repeat (first | ((conv => whnf); (with_reducible refine And.intro ?_ ?_); (focus (first | exact Eq.refl _ | exact trivial | exact Int.natCast_nonneg _ | assumption | exact Nat.le_of_ble_eq_true (Eq.refl true) | decide))))); (conv => whnf)
        obtain rfl := some_eq hF
        refine nd (by decide) _ _ _ ?_
        (repeat (first | ((conv => whnf); (with_reducible refine And.intro ?_ ?_); (focus (first | exact Eq.refl _ | exact trivial | exact Int.natCast_nonneg _ | assumption | exact Nat.le_of_ble_eq_true (Eq.refl true) | decide))))); (conv => whnf)
        exact Exists.intro (rn []) (WS.mk (wt_cons (wd_c (WE.refl _)) wt_nil) wb_nil)
end Go.Proofs.YtafniolcakiljaaDoor

set_option linter.unusedVariables false
set_option linter.unusedSimpArgs false
set_option maxRecDepth 100000
set_option maxHeartbeats 4000000
namespace Go.Proofs.YtafniolcakiljaaDoor
open Go Go.Am
def values_words_l1 (toArray_0 : (List ByteArray)) (a1_ : TValue) (x_53 : Nat) (x_53_s_ : (List TExc)) : Option ((List ByteArray)) :=
  (match x_53_s_ with
  | x96 :: xs97 =>
  strconv_Itoa x96.fN >>= fun r99 =>
  guardP ((toArray_0.length + ([x96.fCon, r99]).length) * 16 ≤ 140737488355328) >>= fun _ =>
  values_words_l1 (toArray_0 ++ ([x96.fCon, r99])) a1_ (x_53 + 1) xs97
  | [] =>
  guardP ((toArray_0.length + ([(ByteArray.mk #[125])]).length) * 16 ≤ 140737488355328) >>= fun _ =>
  some (toArray_0 ++ ([(ByteArray.mk #[125])])))
  partial_fixpoint
def values_words_l1.M (toArray_0 : (List ByteArray)) (a1_ : TValue) (x_53 : Nat) (x_53_s_ : (List TExc)) (r : (List ByteArray)) : Prop :=
  ∀ pre_x_53 : List TExc, a1_.fSet.fList = pre_x_53 ++ x_53_s_ → x_53 = pre_x_53.length → a1_.fSet.fList.length ≤ maxLen → AWL Tryd.prog 97 (Code.sub (bodyOf Tryd.f55) [1, 0, 1, 0, 1, 1, 1, 1, 1, 1, 1, 1, 1, 0, 1, 1, 0, 1, 0, 0]) (Code.cont Tryd.prog 97 (bodyOf Tryd.f55) [1, 0, 1, 0, 1, 1, 1, 1, 1, 1, 1, 1, 1, 0, 1, 1, 0, 1, 0] (endK tab Tryd.f55.results [] (WRes (.c (some (0, 9)) (.sl (r.map c_S))) []))) ⟨[(0, .c (some (0, 9)) (.sl (toArray_0.map c_S))), (51, .c none (.sl (a1_.fSet.fList.map TExc.cells))), (52, .c none (.v (.int .i64 ((a1_.fSet.fList.length : Nat) : Int)))), (53, .c none (.v (.int .i64 ((x_53 : Nat) : Int))))], []⟩
theorem values_words_l1_ok (toArray_0 : (List ByteArray)) (a1_ : TValue) (x_53 : Nat) (x_53_s_ : (List TExc)) : ∀ r, values_words_l1 toArray_0 a1_ x_53 x_53_s_ = some r → values_words_l1.M toArray_0 a1_ x_53 x_53_s_ r := by
  refine values_words_l1.partial_correctness a1_ (fun toArray_0 x_53 x_53_s_ r => values_words_l1.M toArray_0 a1_ x_53 x_53_s_ r) ?_ toArray_0 x_53 x_53_s_
  intro values_words_l1' ih0_values_words_l1 toArray_0 x_53 x_53_s_ r hF
  have ih_values_words_l1 := fun (toArray_0 : (List ByteArray)) (_a1_ : TValue) (x_53 : Nat) (x_53_s_ : (List TExc)) => ih0_values_words_l1 toArray_0 x_53 x_53_s_
  clear ih0_values_words_l1
  unfold values_words_l1.M
  intro pre_x_53 hs_x_53 hk_x_53 hlen84
  refine AWL.step ?_
  refine AWP.seq ?_
  refine nd (by decide) _ _ _ ?_
  (repeat (first | ((conv => whnf); (with_reducible refine And.intro ?_ ?_); (focus (first | exact Eq.refl _ | exact trivial | exact Int.natCast_nonneg _ | assumption | exact Nat.le_of_ble_eq_true (Eq.refl true) | decide))))); (conv => whnf)
  refine AWP.seq ?_
  refine nd (by decide) _ _ _ ?_
  (conv => whnf)
  refine branch_list hs_x_53 hk_x_53 (fun x96 xs97 hp98 hx98 hl98 => ?_) (fun hp98 => ?_)
  · subst hp98
    refine nd (by decide) _ _ _ ?_
    (conv => whnf)
    refine AWP.seq ?_
    refine AWP.block ?_
    refine AWP.seq ?_
    refine nd (by decide) _ _ _ ?_
    (repeat (first | ((conv => whnf); (with_reducible refine And.intro ?_ ?_); (focus (first | exact Eq.refl _ | exact trivial | exact Int.natCast_nonneg _ | assumption | exact Nat.le_of_ble_eq_true (Eq.refl true) | decide))) | ((conv => whnf); rw [map_get (TExc.cells_eq x96) hx98]))); (conv => whnf)
    (repeat (first | ((conv => whnf); (with_reducible refine And.intro ?_ ?_); (focus (first | exact Eq.refl _ | exact trivial | exact Int.natCast_nonneg _ | assumption | exact Nat.le_of_ble_eq_true (Eq.refl true) | decide))))); (conv => whnf)
    obtain ⟨r99, hr99, hF⟩ := bind_some hF
    obtain ⟨hg100, hF⟩ := guard_some hF
    refine nd (by decide) _ _ _ ?_
    refine Exists.intro 7 (Exists.intro [[], [], [], [], [], [], []] (Exists.intro [([57, 58, 59, 60, 61, 62, 63], [], []), ([57, 58, 59, 60, 61, 62, 63], [], []), ([57, 59, 60, 61, 62, 63], [], []), ([57, 58, 59, 60, 61, 62, 63], [], []), ([57, 58, 59, 61, 62, 63], [], []), ([57, 58, 59, 62, 63], [], []), ([57, 63], [], [])] (Exists.intro [57, 58, 59, 60, 61, 62, 63] (And.intro (by decide +kernel) ?_))))
    ((repeat (first | ((conv => whnf); (with_reducible refine And.intro ?_ ?_); (focus (first | exact Eq.refl _ | exact trivial | exact Int.natCast_nonneg _ | assumption | exact Nat.le_of_ble_eq_true (Eq.refl true) | decide))))); (conv => whnf); apply Exists.intro; apply Exists.intro; apply And.intro; (focus (((repeat (first | ((conv => whnf); (with_reducible refine And.intro ?_ ?_); (focus (first | exact Eq.refl _ | exact trivial | exact Int.natCast_nonneg _ | assumption | exact Nat.le_of_ble_eq_true (Eq.refl true) | decide))))); (conv => whnf)) <;> (exact rfl))); apply And.intro; (focus exact rfl); (conv => whnf))
    ((repeat (first | ((conv => whnf); (with_reducible refine And.intro ?_ ?_); (focus (first | exact Eq.refl _ | exact trivial | exact Int.natCast_nonneg _ | assumption | exact Nat.le_of_ble_eq_true (Eq.refl true) | decide))))); (conv => whnf); apply Exists.intro; apply Exists.intro; apply And.intro; (focus (((repeat (first | ((conv => whnf); (with_reducible refine And.intro ?_ ?_); (focus (first | exact Eq.refl _ | exact trivial | exact Int.natCast_nonneg _ | assumption | exact Nat.le_of_ble_eq_true (Eq.refl true) | decide))))); (conv => whnf)) <;> (exact rfl))); apply And.intro; (focus exact rfl); (conv => whnf))
    ((repeat (first | ((conv => whnf); (with_reducible refine And.intro ?_ ?_); (focus (first | exact Eq.refl _ | exact trivial | exact Int.natCast_nonneg _ | assumption | exact Nat.le_of_ble_eq_true (Eq.refl true) | decide))))); (conv => whnf); apply Exists.intro; apply Exists.intro; apply And.intro; (focus (((repeat (first | ((conv => whnf); (with_reducible refine And.intro ?_ ?_); (focus (first | exact Eq.refl _ | exact trivial | exact Int.natCast_nonneg _ | assumption | exact Nat.le_of_ble_eq_true (Eq.refl true) | decide))))); (conv => whnf)) <;> (exact rfl))); apply And.intro; (focus exact rfl); (conv => whnf))
    ((repeat (first | ((conv => whnf); (with_reducible refine And.intro ?_ ?_); (focus (first | exact Eq.refl _ | exact trivial | exact Int.natCast_nonneg _ | assumption | exact Nat.le_of_ble_eq_true (Eq.refl true) | decide))))); (conv => whnf); apply Exists.intro; apply Exists.intro; apply And.intro; (focus (((repeat (first | ((conv => whnf); (with_reducible refine And.intro ?_ ?_); (focus (first | exact Eq.refl _ | exact trivial | exact Int.natCast_nonneg _ | assumption | exact Nat.le_of_ble_eq_true (Eq.refl true) | decide))))); (conv => whnf)) <;> (exact rfl))); apply And.intro; (focus exact rfl); (conv => whnf))
    ((repeat (first | ((conv => whnf); (with_reducible refine And.intro ?_ ?_); (focus (first | exact Eq.refl _ | exact trivial | exact Int.natCast_nonneg _ | assumption | exact Nat.le_of_ble_eq_true (Eq.refl true) | decide))))); (conv => whnf); apply Exists.intro; apply Exists.intro; apply And.intro; (focus (((repeat (first | ((conv => whnf); (with_reducible refine And.intro ?_ ?_); (focus (first | exact Eq.refl _ | exact trivial | exact Int.natCast_nonneg _ | assumption | exact Nat.le_of_ble_eq_true (Eq.refl true) | decide))))); (conv => whnf)) <;> (exact rfl))); apply And.intro; (focus exact rfl); (conv => whnf))
    ((repeat (first | ((conv => whnf); (with_reducible refine And.intro ?_ ?_); (focus (first | exact Eq.refl _ | exact trivial | exact Int.natCast_nonneg _ | assumption | exact Nat.le_of_ble_eq_true (Eq.refl true) | decide))))); (conv => whnf); apply Exists.intro; apply Exists.intro; apply And.intro; (focus ((conv => whnf); refine And.intro rfl ?_; (conv => whnf); refine CallsX.mono (CallsX.weak (rn []) (strconv_Itoa_ok x96.fN _ hr99) rfl (WS.mk (wt_cons (wd_c (WE.refl _)) wt_nil) wb_nil)) ?_; rintro d b ⟨rfl, rfl⟩; exact And.intro rfl rfl)); apply And.intro; (focus exact rfl); (conv => whnf))
    ((repeat (first | ((conv => whnf); (with_reducible refine And.intro ?_ ?_); (focus (first | exact Eq.refl _ | exact trivial | exact Int.natCast_nonneg _ | assumption | exact Nat.le_of_ble_eq_true (Eq.refl true) | decide))))); (conv => whnf); apply Exists.intro; apply Exists.intro; apply And.intro; (focus (((repeat (first | ((conv => whnf); (with_reducible refine And.intro ?_ ?_); (focus (first | exact Eq.refl _ | exact trivial | exact Int.natCast_nonneg _ | assumption | exact Nat.le_of_ble_eq_true (Eq.refl true) | decide))))); (conv => whnf)) <;> (refine Exists.intro _ (And.intro (we_rows (f := c_S) (wl_cons (WE.refl _) wl_nil) (we_rows (f := c_S) (wl_cons (WE.refl _) wl_nil) (we_rows_nil (f := c_S)))) ?_)) <;> ((repeat (first | ((conv => whnf); (with_reducible refine And.intro ?_ ?_); (focus (first | exact Eq.refl _ | exact trivial | exact Int.natCast_nonneg _ | assumption | exact Nat.le_of_ble_eq_true (Eq.refl true) | decide))))); (conv => whnf)) <;> (exact rfl))); apply And.intro; (focus exact rfl); (conv => whnf))
    (repeat (first | ((conv => whnf); (with_reducible refine And.intro ?_ ?_); (focus (first | exact Eq.refl _ | exact trivial | exact Int.natCast_nonneg _ | assumption | exact Nat.le_of_ble_eq_true (Eq.refl true) | decide))))); (conv => whnf)
    refine And.intro (by first | exact rows_map _ (fun x => c_S_len x) | exact rows_nil) (And.intro (by first | exact rows_map _ (fun x => c_S_len x) | exact rows_nil) (And.intro (by have h := hg100; simp only [List.length_map, List.length_append, List.length_cons, List.length_nil, Nat.zero_add] at h ⊢; first | exact h | (unfold maxLen; omega) | omega) (And.intro (by have h := hg100; simp only [List.length_map, List.length_append, List.length_cons, List.length_nil, Nat.zero_add] at h ⊢; first | exact h | (unfold maxLen; omega) | omega) (Exists.intro _ (And.intro (WE.refl _) ?_)))))
    rw [← List.map_append]
    (repeat (first | ((conv => whnf); (with_reducible refine And.intro ?_ ?_); (focus (first | exact Eq.refl _ | exact trivial | exact Int.natCast_nonneg _ | assumption | exact Nat.le_of_ble_eq_true (Eq.refl true) | decide))))); (conv => whnf)
    refine nd (by decide) _ _ _ ?_
    (repeat (first | ((conv => whnf); (with_reducible refine And.intro ?_ ?_); (focus (first | exact Eq.refl _ | exact trivial | exact Int.natCast_nonneg _ | assumption | exact Nat.le_of_ble_eq_true (Eq.refl true) | decide))))); (conv => whnf)
    refine AWL.weak (rn [(64, 0)]) ?_ (ih_values_words_l1 (toArray_0 ++ ([x96.fCon, r99])) a1_ (x_53 + 1) xs97 _ hF (pre_x_53 ++ [x96]) (by rw [hs_x_53]; simp) (by rw [hk_x_53]; simp) hlen84)
    exact (WS.mk (wt_cons (wd_own rfl (WE.refl _)) (wt_cons (wd_c (WE.refl _)) (wt_cons (wd_c (WE.refl _)) (wt_cons (wd_c (we_i (wrap_succ hlen84 hl98))) wt_nil)))) wb_nil)
  · subst hp98
    refine nd (by decide) _ _ _ ?_
    (conv => whnf)
    refine AWP.seq ?_
    obtain ⟨hg101, hF⟩ := guard_some hF
    refine nd (by decide) _ _ _ ?_
    (repeat (first | ((conv => whnf); (with_reducible refine And.intro ?_ ?_); (focus (first | exact Eq.refl _ | exact trivial | exact Int.natCast_nonneg _ | assumption | exact Nat.le_of_ble_eq_true (Eq.refl true) | decide))))); (conv => whnf)
    refine Exists.intro _ (And.intro (we_rows (f := c_S) (wl_cons (WE.refl _) wl_nil) (we_rows_nil (f := c_S))) ?_)
    (repeat (first | ((conv => whnf); (with_reducible refine And.intro ?_ ?_); (focus (first | exact Eq.refl _ | exact trivial | exact Int.natCast_nonneg _ | assumption | exact Nat.le_of_ble_eq_true (Eq.refl true) | decide))))); (conv => whnf)
    refine And.intro (by first | exact rows_map _ (fun x => c_S_len x) | exact rows_nil) (And.intro (by first | exact rows_map _ (fun x => c_S_len x) | exact rows_nil) (And.intro (by have h := hg101; simp only [List.length_map, List.length_append, List.length_cons, List.length_nil, Nat.zero_add] at h ⊢; first | exact h | (unfold maxLen; omega) | omega) (And.intro (by have h := hg101; simp only [List.length_map, List.length_append, List.length_cons, List.length_nil, Nat.zero_add] at h ⊢; first | exact h | (unfold maxLen; omega) | omega) (Exists.intro _ (And.intro (WE.refl _) ?_)))))
    rw [← List.map_append]
    (repeat (first | ((conv => whnf); (with_reducible refine And.intro ?_ ?_); (focus (first | exact Eq.refl _ | exact trivial | exact Int.natCast_nonneg _ | assumption | exact Nat.le_of_ble_eq_true (Eq.refl true) | decide))))); (conv => whnf)
    obtain rfl := some_eq hF
    refine nd (by decide) _ _ _ ?_
    (repeat (first | ((conv => whnf); (with_reducible refine And.intro ?_ ?_); (focus (first | exact Eq.refl _ | exact trivial | exact Int.natCast_nonneg _ | assumption | exact Nat.le_of_ble_eq_true (Eq.refl true) | decide))))); (conv => whnf)
    exact Exists.intro (rn [(68, 0)]) (WS.mk (wt_cons (wd_own rfl (WE.refl _)) wt_nil) wb_nil)
end Go.Proofs.YtafniolcakiljaaDoor

set_option linter.unusedVariables false
set_option linter.unusedSimpArgs false
set_option maxRecDepth 100000
set_option maxHeartbeats 4000000
namespace Go.Proofs.YtafniolcakiljaaDoor
open Go Go.Am
mutual
def values_words (toArray : (List ByteArray)) (a1_ : TValue) : Option ((List ByteArray)) :=
  if (a1_.fOp == 1) = true then
  strconv_Itoa a1_.fN >>= fun r52 =>
  guardP ((toArray.length + ([r52]).length) * 16 ≤ 140737488355328) >>= fun _ =>
  some (toArray ++ ([r52]))
  else
  if (a1_.fOp == 2) = true then
  strconv_Itoa a1_.fN >>= fun r55 =>
  guardP ((((ByteArray.mk #[35]).size + r55.size : Nat) : Int) ≤ IntKind.i64.max) >>= fun _ =>
  guardP ((toArray.length + ([((ByteArray.mk #[35]) ++ r55)]).length) * 16 ≤ 140737488355328) >>= fun _ =>
  some (toArray ++ ([((ByteArray.mk #[35]) ++ r55)]))
  else
  if (a1_.fOp == 4) = true then
  guardP ((toArray.length + ([(ByteArray.mk #[60, 102, 117, 110, 62])]).length) * 16 ≤ 140737488355328) >>= fun _ =>
  some (toArray ++ ([(ByteArray.mk #[60, 102, 117, 110, 62])]))
  else
  if (a1_.fOp == 6) = true then
  guardP ((toArray.length + ([(ByteArray.mk #[63])]).length) * 16 ≤ 140737488355328) >>= fun _ =>
  some (toArray ++ ([(ByteArray.mk #[63])]))
  else
  if (a1_.fOp == 5) = true then
  if a1_.fSet.fAll = true then
  guardP ((toArray.length + ([(ByteArray.mk #[33, 42])]).length) * 16 ≤ 140737488355328) >>= fun _ =>
  some (toArray ++ ([(ByteArray.mk #[33, 42])]))
  else
  guardP ((toArray.length + ([(ByteArray.mk #[33, 123])]).length) * 16 ≤ 140737488355328) >>= fun _ =>
  values_words_l1 (toArray ++ ([(ByteArray.mk #[33, 123])])) a1_ 0 a1_.fSet.fList
  else
  if (((a1_.fKids.length : Nat) : Int) == 0) = true then
  guardP ((toArray.length + ([a1_.fName]).length) * 16 ≤ 140737488355328) >>= fun _ =>
  some (toArray ++ ([a1_.fName]))
  else
  guardP ((toArray.length + ([(ByteArray.mk #[40]), a1_.fName]).length) * 16 ≤ 140737488355328) >>= fun _ =>
  values_words_l2 (toArray ++ ([(ByteArray.mk #[40]), a1_.fName])) a1_ 0 a1_.fKids
  partial_fixpoint
def values_words_l2 (toArray_0 : (List ByteArray)) (a1_ : TValue) (x_86 : Nat) (x_86_s_ : (List TValue)) : Option ((List ByteArray)) :=
  (match x_86_s_ with
  | x132 :: xs133 =>
  values_words toArray_0 x132 >>= fun r135 =>
  values_words_l2 r135 a1_ (x_86 + 1) xs133
  | [] =>
  guardP ((toArray_0.length + ([(ByteArray.mk #[41])]).length) * 16 ≤ 140737488355328) >>= fun _ =>
  some (toArray_0 ++ ([(ByteArray.mk #[41])])))
  partial_fixpoint
end
def values_words.M (toArray : (List ByteArray)) (a1_ : TValue) (r : (List ByteArray)) : Prop :=
  CallsX Tryd.prog 55 [.c (some (0, 9)) (.sl (toArray.map c_S)), .agg [.v (.int .i64 a1_.fOp), .v (.string a1_.fName), .v (.int .i64 a1_.fN), .sl (a1_.fKids.map TValue.cells), .v (.bool a1_.fSet.fAll), .sl (a1_.fSet.fList.map TExc.cells)]] [] (fun d b => d = .c (some (0, 9)) (.sl (r.map c_S)) ∧ b = [])
def values_words_l2.M (toArray_0 : (List ByteArray)) (a1_ : TValue) (x_86 : Nat) (x_86_s_ : (List TValue)) (r : (List ByteArray)) : Prop :=
  ∀ pre_x_86 : List TValue, a1_.fKids = pre_x_86 ++ x_86_s_ → x_86 = pre_x_86.length → a1_.fKids.length ≤ maxLen → AWL Tryd.prog 97 (Code.sub (bodyOf Tryd.f55) [1, 1, 1, 1, 0, 1, 0, 0]) (Code.cont Tryd.prog 97 (bodyOf Tryd.f55) [1, 1, 1, 1, 0, 1, 0] (endK tab Tryd.f55.results [] (WRes (.c (some (0, 9)) (.sl (r.map c_S))) []))) ⟨[(0, .c (some (0, 9)) (.sl (toArray_0.map c_S))), (84, .c none (.sl (a1_.fKids.map TValue.cells))), (85, .c none (.v (.int .i64 ((a1_.fKids.length : Nat) : Int)))), (86, .c none (.v (.int .i64 ((x_86 : Nat) : Int))))], []⟩
theorem values_words_all : (∀ (toArray : (List ByteArray)) (a1_ : TValue), ∀ r, values_words toArray a1_ = some r → values_words.M toArray a1_ r) ∧ (∀ (toArray_0 : (List ByteArray)) (a1_ : TValue) (x_86 : Nat) (x_86_s_ : (List TValue)), ∀ r, values_words_l2 toArray_0 a1_ x_86 x_86_s_ = some r → values_words_l2.M toArray_0 a1_ x_86 x_86_s_ r) := by
  refine values_words.mutual_partial_correctness values_words.M values_words_l2.M ?_ ?_
  · intro values_words_l2' ih_values_words_l2 toArray a1_ r hF
    unfold values_words.M
    refine enter tabOk Tryd.func55 rfl (by decide) (Nat.le_of_ble_eq_true rfl) rfl rfl rfl ?_
    refine AWP.seq ?_
    refine nd (by decide) _ _ _ ?_
    (repeat (first | ((conv => whnf); (with_reducible refine And.intro ?_ ?_); (focus (first | exact Eq.refl _ | exact trivial | exact Int.natCast_nonneg _ | assumption | exact Nat.le_of_ble_eq_true (Eq.refl true) | decide))))); (conv => whnf)
    refine AWP.seq ?_
    refine AWP.seq ?_
    refine nd (by decide) _ _ _ ?_
    (repeat (first | ((conv => whnf); (with_reducible refine And.intro ?_ ?_); (focus (first | exact Eq.refl _ | exact trivial | exact Int.natCast_nonneg _ | assumption | exact Nat.le_of_ble_eq_true (Eq.refl true) | decide))))); (conv => whnf)
    refine AWP.block ?_
    refine AWP.seq ?_
    refine nd (by decide) _ _ _ ?_
    (repeat (first | ((conv => whnf); (with_reducible refine And.intro ?_ ?_); (focus (first | exact Eq.refl _ | exact trivial | exact Int.natCast_nonneg _ | assumption | exact Nat.le_of_ble_eq_true (Eq.refl true) | decide))))); (conv => whnf)
    refine nd (by decide) _ _ _ ?_
    (conv => whnf)
    refine branch_hF hF (fun hc51 hF => ?_) (fun hc51 hF => ?_)
    · refine AWP.seq ?_
      obtain ⟨r52, hr52, hF⟩ := bind_some hF
      obtain ⟨hg53, hF⟩ := guard_some hF
      refine nd (by decide) _ _ _ ?_
      (repeat (first | ((conv => whnf); (with_reducible refine And.intro ?_ ?_); (focus (first | exact Eq.refl _ | exact trivial | exact Int.natCast_nonneg _ | assumption | exact Nat.le_of_ble_eq_true (Eq.refl true) | decide))))); (conv => whnf)
      refine Exists.intro [] ?_
      (repeat (first | ((conv => whnf); (with_reducible refine And.intro ?_ ?_); (focus (first | exact Eq.refl _ | exact trivial | exact Int.natCast_nonneg _ | assumption | exact Nat.le_of_ble_eq_true (Eq.refl true) | decide))))); (conv => whnf)
      refine CallsX.mono (CallsX.weak (rn []) (strconv_Itoa_ok a1_.fN _ hr52) rfl (WS.mk (wt_cons (wd_c (WE.refl _)) wt_nil) wb_nil)) ?_
      rintro d b ⟨rfl, rfl⟩
      (repeat (first | ((conv => whnf); (with_reducible refine And.intro ?_ ?_); (focus (first | exact Eq.refl _ | exact trivial | exact Int.natCast_nonneg _ | assumption | exact Nat.le_of_ble_eq_true (Eq.refl true) | decide))))); (conv => whnf)
      (repeat (first | ((conv => whnf); (with_reducible refine And.intro ?_ ?_); (focus (first | exact Eq.refl _ | exact trivial | exact Int.natCast_nonneg _ | assumption | exact Nat.le_of_ble_eq_true (Eq.refl true) | decide))))); (conv => whnf)
      refine Exists.intro _ (And.intro (we_rows (f := c_S) (wl_cons (WE.refl _) wl_nil) (we_rows_nil (f := c_S))) ?_)
      (repeat (first | ((conv => whnf); (with_reducible refine And.intro ?_ ?_); (focus (first | exact Eq.refl _ | exact trivial | exact Int.natCast_nonneg _ | assumption | exact Nat.le_of_ble_eq_true (Eq.refl true) | decide))))); (conv => whnf)
      refine And.intro (by first | exact rows_map _ (fun x => c_S_len x) | exact rows_nil) (And.intro (by first | exact rows_map _ (fun x => c_S_len x) | exact rows_nil) (And.intro (by have h := hg53; simp only [List.length_map, List.length_append, List.length_cons, List.length_nil, Nat.zero_add] at h ⊢; first | exact h | (unfold maxLen; omega) | omega) (And.intro (by have h := hg53; simp only [List.length_map, List.length_append, List.length_cons, List.length_nil, Nat.zero_add] at h ⊢; first | exact h | (unfold maxLen; omega) | omega) (Exists.intro _ (And.intro (WE.refl _) ?_)))))
      rw [← List.map_append]
      (repeat (first | ((conv => whnf); (with_reducible refine And.intro ?_ ?_); (focus (first | exact Eq.refl _ | exact trivial | exact Int.natCast_nonneg _ | assumption | exact Nat.le_of_ble_eq_true (Eq.refl true) | decide))))); (conv => whnf)
      obtain rfl := some_eq hF
      refine nd (by decide) _ _ _ ?_
      (repeat (first | ((conv => whnf); (with_reducible refine And.intro ?_ ?_); (focus (first | exact Eq.refl _ | exact trivial | exact Int.natCast_nonneg _ | assumption | exact Nat.le_of_ble_eq_true (Eq.refl true) | decide))))); (conv => whnf)
      exact Exists.intro (rn [(18, 0)]) (WS.mk (wt_cons (wd_own rfl (WE.refl _)) wt_nil) wb_nil)
    · refine AWP.seq ?_
      refine nd (by decide) _ _ _ ?_
      (repeat (first | ((conv => whnf); (with_reducible refine And.intro ?_ ?_); (focus (first | exact Eq.refl _ | exact trivial | exact Int.natCast_nonneg _ | assumption | exact Nat.le_of_ble_eq_true (Eq.refl true) | decide))))); (conv => whnf)
      refine nd (by decide) _ _ _ ?_
      (conv => whnf)
      refine branch_hF hF (fun hc54 hF => ?_) (fun hc54 hF => ?_)
      · refine AWP.seq ?_
        obtain ⟨r55, hr55, hF⟩ := bind_some hF
        obtain ⟨hg56, hF⟩ := guard_some hF
        obtain ⟨hg57, hF⟩ := guard_some hF
        refine nd (by decide) _ _ _ ?_
        (repeat (first | ((conv => whnf); (with_reducible refine And.intro ?_ ?_); (focus (first | exact Eq.refl _ | exact trivial | exact Int.natCast_nonneg _ | assumption | exact Nat.le_of_ble_eq_true (Eq.refl true) | decide))))); (conv => whnf)
        refine Exists.intro [] ?_
        (repeat (first | ((conv => whnf); (with_reducible refine And.intro ?_ ?_); (focus (first | exact Eq.refl _ | exact trivial | exact Int.natCast_nonneg _ | assumption | exact Nat.le_of_ble_eq_true (Eq.refl true) | decide))))); (conv => whnf)
        refine CallsX.mono (CallsX.weak (rn []) (strconv_Itoa_ok a1_.fN _ hr55) rfl (WS.mk (wt_cons (wd_c (WE.refl _)) wt_nil) wb_nil)) ?_
        rintro d b ⟨rfl, rfl⟩
        (repeat (first | ((conv => whnf); (with_reducible refine And.intro ?_ ?_); (focus (first | exact Eq.refl _ | exact trivial | exact Int.natCast_nonneg _ | assumption | exact Nat.le_of_ble_eq_true (Eq.refl true) | decide))))); (conv => whnf)
        (repeat (first | ((conv => whnf); (with_reducible refine And.intro ?_ ?_); (focus (first | exact Eq.refl _ | exact trivial | exact Int.natCast_nonneg _ | assumption | exact Nat.le_of_ble_eq_true (Eq.refl true) | decide))))); (conv => whnf)
        refine Exists.intro _ (And.intro (we_rows (f := c_S) (wl_cons (WE.refl _) wl_nil) (we_rows_nil (f := c_S))) ?_)
        (repeat (first | ((conv => whnf); (with_reducible refine And.intro ?_ ?_); (focus (first | exact Eq.refl _ | exact trivial | exact Int.natCast_nonneg _ | assumption | exact Nat.le_of_ble_eq_true (Eq.refl true) | decide))))); (conv => whnf)
        refine And.intro (by first | exact rows_map _ (fun x => c_S_len x) | exact rows_nil) (And.intro (by first | exact rows_map _ (fun x => c_S_len x) | exact rows_nil) (And.intro (by have h := hg57; simp only [List.length_map, List.length_append, List.length_cons, List.length_nil, Nat.zero_add] at h ⊢; first | exact h | (unfold maxLen; omega) | omega) (And.intro (by have h := hg57; simp only [List.length_map, List.length_append, List.length_cons, List.length_nil, Nat.zero_add] at h ⊢; first | exact h | (unfold maxLen; omega) | omega) (Exists.intro _ (And.intro (WE.refl _) ?_)))))
        rw [← List.map_append]
        (repeat (first | ((conv => whnf); (with_reducible refine And.intro ?_ ?_); (focus (first | exact Eq.refl _ | exact trivial | exact Int.natCast_nonneg _ | assumption | exact Nat.le_of_ble_eq_true (Eq.refl true) | decide))))); (conv => whnf)
        obtain rfl := some_eq hF
        refine nd (by decide) _ _ _ ?_
        (repeat (first | ((conv => whnf); (with_reducible refine And.intro ?_ ?_); (focus (first | exact Eq.refl _ | exact trivial | exact Int.natCast_nonneg _ | assumption | exact Nat.le_of_ble_eq_true (Eq.refl true) | decide))))); (conv => whnf)
        exact Exists.intro (rn [(27, 0)]) (WS.mk (wt_cons (wd_own rfl (WE.refl _)) wt_nil) wb_nil)
      · refine AWP.seq ?_
        refine nd (by decide) _ _ _ ?_
        (repeat (first | ((conv => whnf); (with_reducible refine And.intro ?_ ?_); (focus (first | exact Eq.refl _ | exact trivial | exact Int.natCast_nonneg _ | assumption | exact Nat.le_of_ble_eq_true (Eq.refl true) | decide))))); (conv => whnf)
        refine nd (by decide) _ _ _ ?_
        (conv => whnf)
        refine branch_hF hF (fun hc58 hF => ?_) (fun hc58 hF => ?_)
        · refine AWP.seq ?_
          obtain ⟨hg59, hF⟩ := guard_some hF
          refine nd (by decide) _ _ _ ?_
          (repeat (first | ((conv => whnf); (with_reducible refine And.intro ?_ ?_); (focus (first | exact Eq.refl _ | exact trivial | exact Int.natCast_nonneg _ | assumption | exact Nat.le_of_ble_eq_true (Eq.refl true) | decide))))); (conv => whnf)
          refine Exists.intro _ (And.intro (we_rows (f := c_S) (wl_cons (WE.refl _) wl_nil) (we_rows_nil (f := c_S))) ?_)
          (repeat (first | ((conv => whnf); (with_reducible refine And.intro ?_ ?_); (focus (first | exact Eq.refl _ | exact trivial | exact Int.natCast_nonneg _ | assumption | exact Nat.le_of_ble_eq_true (Eq.refl true) | decide))))); (conv => whnf)
          refine And.intro (by first | exact rows_map _ (fun x => c_S_len x) | exact rows_nil) (And.intro (by first | exact rows_map _ (fun x => c_S_len x) | exact rows_nil) (And.intro (by have h := hg59; simp only [List.length_map, List.length_append, List.length_cons, List.length_nil, Nat.zero_add] at h ⊢; first | exact h | (unfold maxLen; omega) | omega) (And.intro (by have h := hg59; simp only [List.length_map, List.length_append, List.length_cons, List.length_nil, Nat.zero_add] at h ⊢; first | exact h | (unfold maxLen; omega) | omega) (Exists.intro _ (And.intro (WE.refl _) ?_)))))
          rw [← List.map_append]
          (repeat (first | ((conv => whnf); (with_reducible refine And.intro ?_ ?_); (focus (first | exact Eq.refl _ | exact trivial | exact Int.natCast_nonneg _ | assumption | exact Nat.le_of_ble_eq_true (Eq.refl true) | decide))))); (conv => whnf)
          obtain rfl := some_eq hF
          refine nd (by decide) _ _ _ ?_
          (repeat (first | ((conv => whnf); (with_reducible refine And.intro ?_ ?_); (focus (first | exact Eq.refl _ | exact trivial | exact Int.natCast_nonneg _ | assumption | exact Nat.le_of_ble_eq_true (Eq.refl true) | decide))))); (conv => whnf)
          exact Exists.intro (rn [(32, 0)]) (WS.mk (wt_cons (wd_own rfl (WE.refl _)) wt_nil) wb_nil)
        · refine AWP.seq ?_
          refine nd (by decide) _ _ _ ?_
          (repeat (first | ((conv => whnf); (with_reducible refine And.intro ?_ ?_); (focus (first | exact Eq.refl _ | exact trivial | exact Int.natCast_nonneg _ | assumption | exact Nat.le_of_ble_eq_true (Eq.refl true) | decide))))); (conv => whnf)
          refine nd (by decide) _ _ _ ?_
          (conv => whnf)
          refine branch_hF hF (fun hc60 hF => ?_) (fun hc60 hF => ?_)
          · refine AWP.seq ?_
            obtain ⟨hg61, hF⟩ := guard_some hF
            refine nd (by decide) _ _ _ ?_
            (repeat (first | ((conv => whnf); (with_reducible refine And.intro ?_ ?_); (focus (first | exact Eq.refl _ | exact trivial | exact Int.natCast_nonneg _ | assumption | exact Nat.le_of_ble_eq_true (Eq.refl true) | decide))))); (conv => whnf)
            refine Exists.intro _ (And.intro (we_rows (f := c_S) (wl_cons (WE.refl _) wl_nil) (we_rows_nil (f := c_S))) ?_)
            (repeat (first | ((conv => whnf); (with_reducible refine And.intro ?_ ?_); (focus (first | exact Eq.refl _ | exact trivial | exact Int.natCast_nonneg _ | assumption | exact Nat.le_of_ble_eq_true (Eq.refl true) | decide))))); (conv => whnf)
            refine And.intro (by first | exact rows_map _ (fun x => c_S_len x) | exact rows_nil) (And.intro (by first | exact rows_map _ (fun x => c_S_len x) | exact rows_nil) (And.intro (by have h := hg61; simp only [List.length_map, List.length_append, List.length_cons, List.length_nil, Nat.zero_add] at h ⊢; first | exact h | (unfold maxLen; omega) | omega) (And.intro (by have h := hg61; simp only [List.length_map, List.length_append, List.length_cons, List.length_nil, Nat.zero_add] at h ⊢; first | exact h | (unfold maxLen; omega) | omega) (Exists.intro _ (And.intro (WE.refl _) ?_)))))
            rw [← List.map_append]
            (repeat (first | ((conv => whnf); (with_reducible refine And.intro ?_ ?_); (focus (first | exact Eq.refl _ | exact trivial | exact Int.natCast_nonneg _ | assumption | exact Nat.le_of_ble_eq_true (Eq.refl true) | decide))))); (conv => whnf)
            obtain rfl := some_eq hF
            refine nd (by decide) _ _ _ ?_
            (repeat (first | ((conv => whnf); (with_reducible refine And.intro ?_ ?_); (focus (first | exact Eq.refl _ | exact trivial | exact Int.natCast_nonneg _ | assumption | exact Nat.le_of_ble_eq_true (Eq.refl true) | decide))))); (conv => whnf)
            exact Exists.intro (rn [(37, 0)]) (WS.mk (wt_cons (wd_own rfl (WE.refl _)) wt_nil) wb_nil)
          · refine AWP.seq ?_
            refine nd (by decide) _ _ _ ?_
            (repeat (first | ((conv => whnf); (with_reducible refine And.intro ?_ ?_); (focus (first | exact Eq.refl _ | exact trivial | exact Int.natCast_nonneg _ | assumption | exact Nat.le_of_ble_eq_true (Eq.refl true) | decide))))); (conv => whnf)
            refine nd (by decide) _ _ _ ?_
            (conv => whnf)
            refine branch_hF hF (fun hc62 hF => ?_) (fun hc62 hF => ?_)
            · refine AWP.seq ?_
              refine AWP.seq ?_
              refine nd (by decide) _ _ _ ?_
              (repeat (first | ((conv => whnf); (with_reducible refine And.intro ?_ ?_); (focus (first | exact Eq.refl _ | exact trivial | exact Int.natCast_nonneg _ | assumption | exact Nat.le_of_ble_eq_true (Eq.refl true) | decide))))); (conv => whnf)
              refine nd (by decide) _ _ _ ?_
              (conv => whnf)
              refine branch_hF hF (fun hc65 hF => ?_) (fun hc65 hF => ?_)
              · refine AWP.seq ?_
                obtain ⟨hg66, hF⟩ := guard_some hF
                refine nd (by decide) _ _ _ ?_
                (repeat (first | ((conv => whnf); (with_reducible refine And.intro ?_ ?_); (focus (first | exact Eq.refl _ | exact trivial | exact Int.natCast_nonneg _ | assumption | exact Nat.le_of_ble_eq_true (Eq.refl true) | decide))))); (conv => whnf)
                refine Exists.intro _ (And.intro (we_rows (f := c_S) (wl_cons (WE.refl _) wl_nil) (we_rows_nil (f := c_S))) ?_)
                (repeat (first | ((conv => whnf); (with_reducible refine And.intro ?_ ?_); (focus (first | exact Eq.refl _ | exact trivial | exact Int.natCast_nonneg _ | assumption | exact Nat.le_of_ble_eq_true (Eq.refl true) | decide))))); (conv => whnf)
                refine And.intro (by first | exact rows_map _ (fun x => c_S_len x) | exact rows_nil) (And.intro (by first | exact rows_map _ (fun x => c_S_len x) | exact rows_nil) (And.intro (by have h := hg66; simp only [List.length_map, List.length_append, List.length_cons, List.length_nil, Nat.zero_add] at h ⊢; first | exact h | (unfold maxLen; omega) | omega) (And.intro (by have h := hg66; simp only [List.length_map, List.length_append, List.length_cons, List.length_nil, Nat.zero_add] at h ⊢; first | exact h | (unfold maxLen; omega) | omega) (Exists.intro _ (And.intro (WE.refl _) ?_)))))
                rw [← List.map_append]
                (repeat (first | ((conv => whnf); (with_reducible refine And.intro ?_ ?_); (focus (first | exact Eq.refl _ | exact trivial | exact Int.natCast_nonneg _ | assumption | exact Nat.le_of_ble_eq_true (Eq.refl true) | decide))))); (conv => whnf)
                obtain rfl := some_eq hF
                refine nd (by decide) _ _ _ ?_
                (repeat (first | ((conv => whnf); (with_reducible refine And.intro ?_ ?_); (focus (first | exact Eq.refl _ | exact trivial | exact Int.natCast_nonneg _ | assumption | exact Nat.le_of_ble_eq_true (Eq.refl true) | decide))))); (conv => whnf)
                exact Exists.intro (rn [(45, 0)]) (WS.mk (wt_cons (wd_own rfl (WE.refl _)) wt_nil) wb_nil)
              · refine nd (by decide) _ _ _ ?_
                (conv => whnf)
                refine AWP.seq ?_
                obtain ⟨hg67, hF⟩ := guard_some hF
                refine nd (by decide) _ _ _ ?_
                (repeat (first | ((conv => whnf); (with_reducible refine And.intro ?_ ?_); (focus (first | exact Eq.refl _ | exact trivial | exact Int.natCast_nonneg _ | assumption | exact Nat.le_of_ble_eq_true (Eq.refl true) | decide))))); (conv => whnf)
                refine Exists.intro _ (And.intro (we_rows (f := c_S) (wl_cons (WE.refl _) wl_nil) (we_rows_nil (f := c_S))) ?_)
                (repeat (first | ((conv => whnf); (with_reducible refine And.intro ?_ ?_); (focus (first | exact Eq.refl _ | exact trivial | exact Int.natCast_nonneg _ | assumption | exact Nat.le_of_ble_eq_true (Eq.refl true) | decide))))); (conv => whnf)
                refine And.intro (by first | exact rows_map _ (fun x => c_S_len x) | exact rows_nil) (And.intro (by first | exact rows_map _ (fun x => c_S_len x) | exact rows_nil) (And.intro (by have h := hg67; simp only [List.length_map, List.length_append, List.length_cons, List.length_nil, Nat.zero_add] at h ⊢; first | exact h | (unfold maxLen; omega) | omega) (And.intro (by have h := hg67; simp only [List.length_map, List.length_append, List.length_cons, List.length_nil, Nat.zero_add] at h ⊢; first | exact h | (unfold maxLen; omega) | omega) (Exists.intro _ (And.intro (WE.refl _) ?_)))))
                rw [← List.map_append]
                (repeat (first | ((conv => whnf); (with_reducible refine And.intro ?_ ?_); (focus (first | exact Eq.refl _ | exact trivial | exact Int.natCast_nonneg _ | assumption | exact Nat.le_of_ble_eq_true (Eq.refl true) | decide))))); (conv => whnf)
                refine AWP.seq ?_
                refine AWP.seq ?_
                refine nd (by decide) _ _ _ ?_
                (repeat (first | ((conv => whnf); (with_reducible refine And.intro ?_ ?_); (focus (first | exact Eq.refl _ | exact trivial | exact Int.natCast_nonneg _ | assumption | exact Nat.le_of_ble_eq_true (Eq.refl true) | decide))))); (conv => whnf)
                intro hlen84
                (try rw [List.length_map] at hlen84)
                (try rw [List.length_map])
                (repeat (first | ((conv => whnf); (with_reducible refine And.intro ?_ ?_); (focus (first | exact Eq.refl _ | exact trivial | exact Int.natCast_nonneg _ | assumption | exact Nat.le_of_ble_eq_true (Eq.refl true) | decide))))); (conv => whnf)
                refine AWP.block ?_
                refine AWP.loop ?_
                refine AWL.weak (rn [(48, 0)]) ?_ (values_words_l1_ok (toArray ++ ([(ByteArray.mk #[33, 123])])) a1_ 0 a1_.fSet.fList _ hF ([]) rfl rfl hlen84)
                exact (WS.mk (wt_cons (wd_own rfl (WE.refl _)) (wt_cons (wd_c (WE.refl _)) (wt_cons (wd_c (WE.refl _)) (wt_cons (wd_c (WE.refl _)) wt_nil)))) wb_nil)
            · refine nd (by decide) _ _ _ ?_
              (conv => whnf)
              refine AWP.seq ?_
              refine AWP.seq ?_
              refine nd (by decide) _ _ _ ?_
              (repeat (first | ((conv => whnf); (with_reducible refine And.intro ?_ ?_); (focus (first | exact Eq.refl _ | exact trivial | exact Int.natCast_nonneg _ | assumption | exact Nat.le_of_ble_eq_true (Eq.refl true) | decide))))); (conv => whnf)
              intro hlen105
              (try rw [List.length_map] at hlen105)
              (try rw [List.length_map])
              (repeat (first | ((conv => whnf); (with_reducible refine And.intro ?_ ?_); (focus (first | exact Eq.refl _ | exact trivial | exact Int.natCast_nonneg _ | assumption | exact Nat.le_of_ble_eq_true (Eq.refl true) | decide))))); (conv => whnf)
              refine nd (by decide) _ _ _ ?_
              (conv => whnf)
              refine branch_hF hF (fun hc106 hF => ?_) (fun hc106 hF => ?_)
              · refine AWP.seq ?_
                obtain ⟨hg107, hF⟩ := guard_some hF
                refine nd (by decide) _ _ _ ?_
                (repeat (first | ((conv => whnf); (with_reducible refine And.intro ?_ ?_); (focus (first | exact Eq.refl _ | exact trivial | exact Int.natCast_nonneg _ | assumption | exact Nat.le_of_ble_eq_true (Eq.refl true) | decide))))); (conv => whnf)
                refine Exists.intro _ (And.intro (we_rows (f := c_S) (wl_cons (WE.refl _) wl_nil) (we_rows_nil (f := c_S))) ?_)
                (repeat (first | ((conv => whnf); (with_reducible refine And.intro ?_ ?_); (focus (first | exact Eq.refl _ | exact trivial | exact Int.natCast_nonneg _ | assumption | exact Nat.le_of_ble_eq_true (Eq.refl true) | decide))))); (conv => whnf)
                refine And.intro (by first | exact rows_map _ (fun x => c_S_len x) | exact rows_nil) (And.intro (by first | exact rows_map _ (fun x => c_S_len x) | exact rows_nil) (And.intro (by have h := hg107; simp only [List.length_map, List.length_append, List.length_cons, List.length_nil, Nat.zero_add] at h ⊢; first | exact h | (unfold maxLen; omega) | omega) (And.intro (by have h := hg107; simp only [List.length_map, List.length_append, List.length_cons, List.length_nil, Nat.zero_add] at h ⊢; first | exact h | (unfold maxLen; omega) | omega) (Exists.intro _ (And.intro (WE.refl _) ?_)))))
                rw [← List.map_append]
                (repeat (first | ((conv => whnf); (with_reducible refine And.intro ?_ ?_); (focus (first | exact Eq.refl _ | exact trivial | exact Int.natCast_nonneg _ | assumption | exact Nat.le_of_ble_eq_true (Eq.refl true) | decide))))); (conv => whnf)
                obtain rfl := some_eq hF
                refine nd (by decide) _ _ _ ?_
                (repeat (first | ((conv => whnf); (with_reducible refine And.intro ?_ ?_); (focus (first | exact Eq.refl _ | exact trivial | exact Int.natCast_nonneg _ | assumption | exact Nat.le_of_ble_eq_true (Eq.refl true) | decide))))); (conv => whnf)
                exact Exists.intro (rn [(77, 0)]) (WS.mk (wt_cons (wd_own rfl (WE.refl _)) wt_nil) wb_nil)
              · refine nd (by decide) _ _ _ ?_
                (conv => whnf)
                refine AWP.seq ?_
                obtain ⟨hg108, hF⟩ := guard_some hF
                refine nd (by decide) _ _ _ ?_
                (repeat (first | ((conv => whnf); (with_reducible refine And.intro ?_ ?_); (focus (first | exact Eq.refl _ | exact trivial | exact Int.natCast_nonneg _ | assumption | exact Nat.le_of_ble_eq_true (Eq.refl true) | decide))))); (conv => whnf)
                refine Exists.intro _ (And.intro (we_rows (f := c_S) (wl_cons (WE.refl _) wl_nil) (we_rows (f := c_S) (wl_cons (WE.refl _) wl_nil) (we_rows_nil (f := c_S)))) ?_)
                (repeat (first | ((conv => whnf); (with_reducible refine And.intro ?_ ?_); (focus (first | exact Eq.refl _ | exact trivial | exact Int.natCast_nonneg _ | assumption | exact Nat.le_of_ble_eq_true (Eq.refl true) | decide))))); (conv => whnf)
                refine And.intro (by first | exact rows_map _ (fun x => c_S_len x) | exact rows_nil) (And.intro (by first | exact rows_map _ (fun x => c_S_len x) | exact rows_nil) (And.intro (by have h := hg108; simp only [List.length_map, List.length_append, List.length_cons, List.length_nil, Nat.zero_add] at h ⊢; first | exact h | (unfold maxLen; omega) | omega) (And.intro (by have h := hg108; simp only [List.length_map, List.length_append, List.length_cons, List.length_nil, Nat.zero_add] at h ⊢; first | exact h | (unfold maxLen; omega) | omega) (Exists.intro _ (And.intro (WE.refl _) ?_)))))
                rw [← List.map_append]
                (repeat (first | ((conv => whnf); (with_reducible refine And.intro ?_ ?_); (focus (first | exact Eq.refl _ | exact trivial | exact Int.natCast_nonneg _ | assumption | exact Nat.le_of_ble_eq_true (Eq.refl true) | decide))))); (conv => whnf)
                refine AWP.seq ?_
                refine AWP.seq ?_
                refine nd (by decide) _ _ _ ?_
                (repeat (first | ((conv => whnf); (with_reducible refine And.intro ?_ ?_); (focus (first | exact Eq.refl _ | exact trivial | exact Int.natCast_nonneg _ | assumption | exact Nat.le_of_ble_eq_true (Eq.refl true) | decide))))); (conv => whnf)
                intro hlen122
                (try rw [List.length_map] at hlen122)
                (try rw [List.length_map])
                (repeat (first | ((conv => whnf); (with_reducible refine And.intro ?_ ?_); (focus (first | exact Eq.refl _ | exact trivial | exact Int.natCast_nonneg _ | assumption | exact Nat.le_of_ble_eq_true (Eq.refl true) | decide))))); (conv => whnf)
                refine AWP.block ?_
                refine AWP.loop ?_
                refine AWL.weak (rn [(82, 0)]) ?_ (ih_values_words_l2 (toArray ++ ([(ByteArray.mk #[40]), a1_.fName])) a1_ 0 a1_.fKids _ hF ([]) rfl rfl hlen122)
                exact (WS.mk (wt_cons (wd_own rfl (WE.refl _)) (wt_cons (wd_c (WE.refl _)) (wt_cons (wd_c (WE.refl _)) (wt_cons (wd_c (WE.refl _)) wt_nil)))) wb_nil)
  · intro values_words' values_words_l2' ih_values_words ih_values_words_l2 toArray_0 a1_ x_86 x_86_s_ r hF
    unfold values_words_l2.M
    intro pre_x_86 hs_x_86 hk_x_86 hlen122
    refine AWL.step ?_
    refine AWP.seq ?_
    refine nd (by decide) _ _ _ ?_
    (repeat (first | ((conv => whnf); (with_reducible refine And.intro ?_ ?_); (focus (first | exact Eq.refl _ | exact trivial | exact Int.natCast_nonneg _ | assumption | exact Nat.le_of_ble_eq_true (Eq.refl true) | decide))))); (conv => whnf)
    refine AWP.seq ?_
    refine nd (by decide) _ _ _ ?_
    (conv => whnf)
    refine branch_list hs_x_86 hk_x_86 (fun x132 xs133 hp134 hx134 hl134 => ?_) (fun hp134 => ?_)
    · subst hp134
      refine nd (by decide) _ _ _ ?_
      (conv => whnf)
      refine AWP.seq ?_
      refine AWP.block ?_
      refine AWP.seq ?_
      refine nd (by decide) _ _ _ ?_
      (repeat (first | ((conv => whnf); (with_reducible refine And.intro ?_ ?_); (focus (first | exact Eq.refl _ | exact trivial | exact Int.natCast_nonneg _ | assumption | exact Nat.le_of_ble_eq_true (Eq.refl true) | decide))) | ((conv => whnf); rw [map_get (TValue.cells_eq x132) hx134]))); (conv => whnf)
      (repeat (first | ((conv => whnf); (with_reducible refine And.intro ?_ ?_); (focus (first | exact Eq.refl _ | exact trivial | exact Int.natCast_nonneg _ | assumption | exact Nat.le_of_ble_eq_true (Eq.refl true) | decide))))); (conv => whnf)
      obtain ⟨r135, hr135, hF⟩ := bind_some hF
      refine nd (by decide) _ _ _ ?_
      (repeat (first | ((conv => whnf); (with_reducible refine And.intro ?_ ?_); (focus (first | exact Eq.refl _ | exact trivial | exact Int.natCast_nonneg _ | assumption | exact Nat.le_of_ble_eq_true (Eq.refl true) | decide))))); (conv => whnf)
      refine Exists.intro [] ?_
      (repeat (first | ((conv => whnf); (with_reducible refine And.intro ?_ ?_); (focus (first | exact Eq.refl _ | exact trivial | exact Int.natCast_nonneg _ | assumption | exact Nat.le_of_ble_eq_true (Eq.refl true) | decide))))); (conv => whnf)
      refine CallsX.mono (CallsX.weak (rn [(0, 0)]) (ih_values_words toArray_0 x132 _ hr135) rfl (WS.mk (wt_cons (wd_own rfl (WE.refl _)) (wt_cons (wd_agg (wl_cons (WE.refl _) (wl_cons (WE.refl _) (wl_cons (WE.refl _) (wl_cons (WE.refl _) (wl_cons (WE.refl _) (wl_cons (WE.refl _) wl_nil))))))) wt_nil)) wb_nil)) ?_
      rintro d b ⟨rfl, rfl⟩
      (repeat (first | ((conv => whnf); (with_reducible refine And.intro ?_ ?_); (focus (first | exact Eq.refl _ | exact trivial | exact Int.natCast_nonneg _ | assumption | exact Nat.le_of_ble_eq_true (Eq.refl true) | decide))))); (conv => whnf)
      (repeat (first | ((conv => whnf); (with_reducible refine And.intro ?_ ?_); (focus (first | exact Eq.refl _ | exact trivial | exact Int.natCast_nonneg _ | assumption | exact Nat.le_of_ble_eq_true (Eq.refl true) | decide))))); (conv => whnf)
      refine nd (by decide) _ _ _ ?_
      (repeat (first | ((conv => whnf); (with_reducible refine And.intro ?_ ?_); (focus (first | exact Eq.refl _ | exact trivial | exact Int.natCast_nonneg _ | assumption | exact Nat.le_of_ble_eq_true (Eq.refl true) | decide))))); (conv => whnf)
      refine AWL.weak (rn [(92, 0)]) ?_ (ih_values_words_l2 r135 a1_ (x_86 + 1) xs133 _ hF (pre_x_86 ++ [x132]) (by rw [hs_x_86]; simp) (by rw [hk_x_86]; simp) hlen122)
      exact (WS.mk (wt_cons (wd_own rfl (WE.refl _)) (wt_cons (wd_c (WE.refl _)) (wt_cons (wd_c (WE.refl _)) (wt_cons (wd_c (we_i (wrap_succ hlen122 hl134))) wt_nil)))) wb_nil)
    · subst hp134
      refine nd (by decide) _ _ _ ?_
      (conv => whnf)
      refine AWP.seq ?_
      obtain ⟨hg136, hF⟩ := guard_some hF
      refine nd (by decide) _ _ _ ?_
      (repeat (first | ((conv => whnf); (with_reducible refine And.intro ?_ ?_); (focus (first | exact Eq.refl _ | exact trivial | exact Int.natCast_nonneg _ | assumption | exact Nat.le_of_ble_eq_true (Eq.refl true) | decide))))); (conv => whnf)
      refine Exists.intro _ (And.intro (we_rows (f := c_S) (wl_cons (WE.refl _) wl_nil) (we_rows_nil (f := c_S))) ?_)
      (repeat (first | ((conv => whnf); (with_reducible refine And.intro ?_ ?_); (focus (first | exact Eq.refl _ | exact trivial | exact Int.natCast_nonneg _ | assumption | exact Nat.le_of_ble_eq_true (Eq.refl true) | decide))))); (conv => whnf)
      refine And.intro (by first | exact rows_map _ (fun x => c_S_len x) | exact rows_nil) (And.intro (by first | exact rows_map _ (fun x => c_S_len x) | exact rows_nil) (And.intro (by have h := hg136; simp only [List.length_map, List.length_append, List.length_cons, List.length_nil, Nat.zero_add] at h ⊢; first | exact h | (unfold maxLen; omega) | omega) (And.intro (by have h := hg136; simp only [List.length_map, List.length_append, List.length_cons, List.length_nil, Nat.zero_add] at h ⊢; first | exact h | (unfold maxLen; omega) | omega) (Exists.intro _ (And.intro (WE.refl _) ?_)))))
      rw [← List.map_append]
      (repeat (first | ((conv => whnf); (with_reducible refine And.intro ?_ ?_); (focus (first | exact Eq.refl _ | exact trivial | exact Int.natCast_nonneg _ | assumption | exact Nat.le_of_ble_eq_true (Eq.refl true) | decide))))); (conv => whnf)
      obtain rfl := some_eq hF
      refine nd (by decide) _ _ _ ?_
      (repeat (first | ((conv => whnf); (with_reducible refine And.intro ?_ ?_); (focus (first | exact Eq.refl _ | exact trivial | exact Int.natCast_nonneg _ | assumption | exact Nat.le_of_ble_eq_true (Eq.refl true) | decide))))); (conv => whnf)
      exact Exists.intro (rn [(96, 0)]) (WS.mk (wt_cons (wd_own rfl (WE.refl _)) wt_nil) wb_nil)
theorem values_words_ok : ∀ (toArray : (List ByteArray)) (a1_ : TValue), ∀ r, values_words toArray a1_ = some r → values_words.M toArray a1_ r := values_words_all.1
theorem values_words_l2_ok : ∀ (toArray_0 : (List ByteArray)) (a1_ : TValue) (x_86 : Nat) (x_86_s_ : (List TValue)), ∀ r, values_words_l2 toArray_0 a1_ x_86 x_86_s_ = some r → values_words_l2.M toArray_0 a1_ x_86 x_86_s_ r := values_words_all.2
end Go.Proofs.YtafniolcakiljaaDoor

set_option linter.unusedVariables false
set_option linter.unusedSimpArgs false
set_option maxRecDepth 100000
set_option maxHeartbeats 4000000
namespace Go.Proofs.YtafniolcakiljaaDoor
open Go Go.Am
def values_Print (v : TValue) : Option (ByteArray) :=
  values_Check v >>= fun r3 =>
  if (r3 != 0) = true then
  some (ByteArray.mk #[])
  else
  values_words ([] : List ByteArray) v >>= fun r5 =>
  strings_Join r5 (ByteArray.mk #[32]) >>= fun r6 =>
  some r6
def values_Print.M (v : TValue) (r : ByteArray) : Prop :=
  CallsX Tryd.prog 38 [.agg [.v (.int .i64 v.fOp), .v (.string v.fName), .v (.int .i64 v.fN), .sl (v.fKids.map TValue.cells), .v (.bool v.fSet.fAll), .sl (v.fSet.fList.map TExc.cells)]] [] (fun d b => d = .c none (.v (.string r)) ∧ b = [])
theorem values_Print_ok (v : TValue) (r : ByteArray) (hF : values_Print v = some r) : values_Print.M v r := by
  unfold values_Print at hF
  unfold values_Print.M
  refine enter tabOk Tryd.func38 rfl (by decide) (Nat.le_of_ble_eq_true rfl) rfl rfl rfl ?_
  refine AWP.seq ?_
  refine nd (by decide) _ _ _ ?_
  (repeat (first | ((conv => whnf); (with_reducible refine And.intro ?_ ?_); (focus (first | exact Eq.refl _ | exact trivial | exact Int.natCast_nonneg _ | assumption | exact Nat.le_of_ble_eq_true (Eq.refl true) | decide))))); (conv => whnf)
  refine AWP.seq ?_
  refine AWP.seq ?_
  obtain ⟨r3, hr3, hF⟩ := bind_some hF
  refine nd (by decide) _ _ _ ?_
  (repeat (first | ((conv => whnf); (with_reducible refine And.intro ?_ ?_); (focus (first | exact Eq.refl _ | exact trivial | exact Int.natCast_nonneg _ | assumption | exact Nat.le_of_ble_eq_true (Eq.refl true) | decide))))); (conv => whnf)
  refine Exists.intro [] ?_
  (repeat (first | ((conv => whnf); (with_reducible refine And.intro ?_ ?_); (focus (first | exact Eq.refl _ | exact trivial | exact Int.natCast_nonneg _ | assumption | exact Nat.le_of_ble_eq_true (Eq.refl true) | decide))))); (conv => whnf)
  refine CallsX.mono (CallsX.weak (rn []) (values_Check_ok v _ hr3) rfl (WS.mk (wt_cons (wd_agg (wl_cons (WE.refl _) (wl_cons (WE.refl _) (wl_cons (WE.refl _) (wl_cons (WE.refl _) (wl_cons (WE.refl _) (wl_cons (WE.refl _) wl_nil))))))) wt_nil) wb_nil)) ?_
  rintro d b ⟨rfl, rfl⟩
  (repeat (first | ((conv => whnf); (with_reducible refine And.intro ?_ ?_); (focus (first | exact Eq.refl _ | exact trivial | exact Int.natCast_nonneg _ | assumption | exact Nat.le_of_ble_eq_true (Eq.refl true) | decide))))); (conv => whnf)
  (repeat (first | ((conv => whnf); (with_reducible refine And.intro ?_ ?_); (focus (first | exact Eq.refl _ | exact trivial | exact Int.natCast_nonneg _ | assumption | exact Nat.le_of_ble_eq_true (Eq.refl true) | decide))))); (conv => whnf)
  refine nd (by decide) _ _ _ ?_
  (conv => whnf)
  refine branch_hF hF (fun hc4 hF => ?_) (fun hc4 hF => ?_)
  · refine AWP.seq ?_
    refine nd (by decide) _ _ _ ?_
    (repeat (first | ((conv => whnf); (with_reducible refine And.intro ?_ ?_); (focus (first | exact Eq.refl _ | exact trivial | exact Int.natCast_nonneg _ | assumption | exact Nat.le_of_ble_eq_true (Eq.refl true) | decide))))); (conv => whnf)
    obtain rfl := some_eq hF
    refine nd (by decide) _ _ _ ?_
    (repeat (first | ((conv => whnf); (with_reducible refine And.intro ?_ ?_); (focus (first | exact Eq.refl _ | exact trivial | exact Int.natCast_nonneg _ | assumption | exact Nat.le_of_ble_eq_true (Eq.refl true) | decide))))); (conv => whnf)
    exact Exists.intro (rn []) (WS.mk (wt_cons (wd_c (WE.refl _)) wt_nil) wb_nil)
  · refine nd (by decide) _ _ _ ?_
    (conv => whnf)
    refine AWP.seq ?_
    obtain ⟨r5, hr5, hF⟩ := bind_some hF
    obtain ⟨r6, hr6, hF⟩ := bind_some hF
    refine nd (by decide) _ _ _ ?_
    (repeat (first | ((conv => whnf); (with_reducible refine And.intro ?_ ?_); (focus (first | exact Eq.refl _ | exact trivial | exact Int.natCast_nonneg _ | assumption | exact Nat.le_of_ble_eq_true (Eq.refl true) | decide))))); (conv => whnf)
    refine Exists.intro [] ?_
    (repeat (first | ((conv => whnf); (with_reducible refine And.intro ?_ ?_); (focus (first | exact Eq.refl _ | exact trivial | exact Int.natCast_nonneg _ | assumption | exact Nat.le_of_ble_eq_true (Eq.refl true) | decide))))); (conv => whnf)
    refine CallsX.mono (CallsX.weak (rn []) (values_words_ok ([] : List ByteArray) v _ hr5) rfl (WS.mk (wt_cons wd_nil (wt_cons (wd_agg (wl_cons (WE.refl _) (wl_cons (WE.refl _) (wl_cons (WE.refl _) (wl_cons (WE.refl _) (wl_cons (WE.refl _) (wl_cons (WE.refl _) wl_nil))))))) wt_nil)) wb_nil)) ?_
    rintro d b ⟨rfl, rfl⟩
    (repeat (first | ((conv => whnf); (with_reducible refine And.intro ?_ ?_); (focus (first | exact Eq.refl _ | exact trivial | exact Int.natCast_nonneg _ | assumption | exact Nat.le_of_ble_eq_true (Eq.refl true) | decide))))); (conv => whnf)
    (repeat (first | ((conv => whnf); (with_reducible refine And.intro ?_ ?_); (focus (first | exact Eq.refl _ | exact trivial | exact Int.natCast_nonneg _ | assumption | exact Nat.le_of_ble_eq_true (Eq.refl true) | decide))))); (conv => whnf)
    refine Exists.intro [7] ?_
    (repeat (first | ((conv => whnf); (with_reducible refine And.intro ?_ ?_); (focus (first | exact Eq.refl _ | exact trivial | exact Int.natCast_nonneg _ | assumption | exact Nat.le_of_ble_eq_true (Eq.refl true) | decide))))); (conv => whnf)
    refine CallsX.mono (CallsX.weak (rn []) (strings_Join_ok r5 (ByteArray.mk #[32]) _ hr6) rfl (WS.mk (wt_cons (wd_c (WE.refl _)) (wt_cons (wd_c (WE.refl _)) wt_nil)) wb_nil)) ?_
    rintro d b ⟨rfl, rfl⟩
    (repeat (first | ((conv => whnf); (with_reducible refine And.intro ?_ ?_); (focus (first | exact Eq.refl _ | exact trivial | exact Int.natCast_nonneg _ | assumption | exact Nat.le_of_ble_eq_true (Eq.refl true) | decide))))); (conv => whnf)
    (repeat (first | ((conv => whnf); (with_reducible refine And.intro ?_ ?_); (focus (first | exact Eq.refl _ | exact trivial | exact Int.natCast_nonneg _ | assumption | exact Nat.le_of_ble_eq_true (Eq.refl true) | decide))))); (conv => whnf)
    obtain rfl := some_eq hF
    refine nd (by decide) _ _ _ ?_
    (repeat (first | ((conv => whnf); (with_reducible refine And.intro ?_ ?_); (focus (first | exact Eq.refl _ | exact trivial | exact Int.natCast_nonneg _ | assumption | exact Nat.le_of_ble_eq_true (Eq.refl true) | decide))))); (conv => whnf)
    exact Exists.intro (rn []) (WS.mk (wt_cons (wd_c (WE.refl _)) wt_nil) wb_nil)
end Go.Proofs.YtafniolcakiljaaDoor

set_option linter.unusedVariables false
set_option linter.unusedSimpArgs false
set_option maxRecDepth 100000
set_option maxHeartbeats 4000000
namespace Go.Proofs.YtafniolcakiljaaDoor
open Go Go.Am
def values_All : Option (TExcSet) :=
  some (TExcSet.mk true ([] : List TExc))
def values_All.M (r : TExcSet) : Prop :=
  CallsX Tryd.prog 29 [] [] (fun d b => d = .agg [.v (.bool r.fAll), .sl (r.fList.map TExc.cells)] ∧ b = [])
theorem values_All_ok (r : TExcSet) (hF : values_All = some r) : values_All.M r := by
  unfold values_All at hF
  unfold values_All.M
  refine enter tabOk Tryd.func29 rfl (by decide) (Nat.le_of_ble_eq_true rfl) rfl rfl rfl ?_
  refine AWP.seq ?_
  refine nd (by decide) _ _ _ ?_
  (repeat (first | ((conv => whnf); (with_reducible refine And.intro ?_ ?_); (focus (first | exact Eq.refl _ | exact trivial | exact Int.natCast_nonneg _ | assumption | exact Nat.le_of_ble_eq_true (Eq.refl true) | decide))))); (conv => whnf)
  refine AWP.seq ?_
  refine nd (by decide) _ _ _ ?_
  (repeat (first | ((conv => whnf); (with_reducible refine And.intro ?_ ?_); (focus (first | exact Eq.refl _ | exact trivial | exact Int.natCast_nonneg _ | assumption | exact Nat.le_of_ble_eq_true (Eq.refl true) | decide))))); (conv => whnf)
  obtain rfl := some_eq hF
  refine nd (by decide) _ _ _ ?_
  (repeat (first | ((conv => whnf); (with_reducible refine And.intro ?_ ?_); (focus (first | exact Eq.refl _ | exact trivial | exact Int.natCast_nonneg _ | assumption | exact Nat.le_of_ble_eq_true (Eq.refl true) | decide))))); (conv => whnf)
  exact Exists.intro (rn []) (WS.mk (wt_cons (wd_agg (wl_cons (WE.refl _) (wl_cons WE.nil wl_nil))) wt_nil) wb_nil)
end Go.Proofs.YtafniolcakiljaaDoor

set_option linter.unusedVariables false
set_option linter.unusedSimpArgs false
set_option maxRecDepth 100000
set_option maxHeartbeats 4000000
namespace Go.Proofs.YtafniolcakiljaaDoor
open Go Go.Am
def values_reader_next (r_ : Tvalues_reader) : Option (ByteArray × Tvalues_reader) :=
  if (decide (r_.fat ≥ ((r_.fwords.length : Nat) : Int))) = true then
  some ((ByteArray.mk #[]), Tvalues_reader.mk r_.fwords r_.fat true)
  else
  (ixI r_.fwords (IntKind.i64.wrap ((IntKind.i64.wrap (r_.fat + 1)) - 1))) >>= fun x3 =>
  some (x3, Tvalues_reader.mk r_.fwords (IntKind.i64.wrap (r_.fat + 1)) r_.fbad)
def values_reader_next.M (r_ : Tvalues_reader) (r : ByteArray × Tvalues_reader) : Prop :=
  CallsX Tryd.prog 70 [.ptr 1000 0] [(1000, [(none, .sl (r_.fwords.map c_S)), (none, .v (.int .i64 r_.fat)), (none, .v (.bool r_.fbad))])] (fun d b => d = .c none (.v (.string r.1)) ∧ b = [(1000, [(none, .sl (r.2.fwords.map c_S)), (none, .v (.int .i64 r.2.fat)), (none, .v (.bool r.2.fbad))])])
theorem values_reader_next_ok (r_ : Tvalues_reader) (r : ByteArray × Tvalues_reader) (hF : values_reader_next r_ = some r) : values_reader_next.M r_ r := by
  unfold values_reader_next at hF
  unfold values_reader_next.M
  refine enter tabOk Tryd.func70 rfl (by decide) (Nat.le_of_ble_eq_true rfl) rfl rfl rfl ?_
  refine AWP.seq ?_
  refine nd (by decide) _ _ _ ?_
  (repeat (first | ((conv => whnf); (with_reducible refine And.intro ?_ ?_); (focus (first | exact Eq.refl _ | exact trivial | exact Int.natCast_nonneg _ | assumption | exact Nat.le_of_ble_eq_true (Eq.refl true) | decide))))); (conv => whnf)
  refine AWP.seq ?_
  refine AWP.seq ?_
  refine nd (by decide) _ _ _ ?_
  refine Exists.intro 9 (Exists.intro [[], [], [], [], [], [], [], [], []] (Exists.intro [([3, 4, 5, 6, 7, 8, 9, 10, 11], [], []), ([4, 5, 6, 7, 8, 9, 10, 11], [], []), ([5, 6, 7, 8, 9, 10, 11], [], []), ([6, 7, 8, 9, 10, 11], [], []), ([3, 4, 5, 6, 7, 8, 9, 10, 11], [], []), ([3, 4, 5, 6, 8, 9, 10, 11], [], []), ([3, 4, 5, 6, 9, 10, 11], [], []), ([3, 4, 5, 6, 10, 11], [], []), ([3, 4, 5, 6, 11], [], [])] (Exists.intro [3, 4, 5, 6, 7, 8, 9, 10, 11] (And.intro (by decide +kernel) ?_))))
  ((repeat (first | ((conv => whnf); (with_reducible refine And.intro ?_ ?_); (focus (first | exact Eq.refl _ | exact trivial | exact Int.natCast_nonneg _ | assumption | exact Nat.le_of_ble_eq_true (Eq.refl true) | decide))))); (conv => whnf); apply Exists.intro; apply Exists.intro; apply And.intro; (focus (((repeat (first | ((conv => whnf); (with_reducible refine And.intro ?_ ?_); (focus (first | exact Eq.refl _ | exact trivial | exact Int.natCast_nonneg _ | assumption | exact Nat.le_of_ble_eq_true (Eq.refl true) | decide))))); (conv => whnf)) <;> (exact rfl))); apply And.intro; (focus exact rfl); (conv => whnf))
  ((repeat (first | ((conv => whnf); (with_reducible refine And.intro ?_ ?_); (focus (first | exact Eq.refl _ | exact trivial | exact Int.natCast_nonneg _ | assumption | exact Nat.le_of_ble_eq_true (Eq.refl true) | decide))))); (conv => whnf); apply Exists.intro; apply Exists.intro; apply And.intro; (focus (((repeat (first | ((conv => whnf); (with_reducible refine And.intro ?_ ?_); (focus (first | exact Eq.refl _ | exact trivial | exact Int.natCast_nonneg _ | assumption | exact Nat.le_of_ble_eq_true (Eq.refl true) | decide))))); (conv => whnf)) <;> (exact rfl))); apply And.intro; (focus exact rfl); (conv => whnf))
  ((repeat (first | ((conv => whnf); (with_reducible refine And.intro ?_ ?_); (focus (first | exact Eq.refl _ | exact trivial | exact Int.natCast_nonneg _ | assumption | exact Nat.le_of_ble_eq_true (Eq.refl true) | decide))))); (conv => whnf); apply Exists.intro; apply Exists.intro; apply And.intro; (focus (((repeat (first | ((conv => whnf); (with_reducible refine And.intro ?_ ?_); (focus (first | exact Eq.refl _ | exact trivial | exact Int.natCast_nonneg _ | assumption | exact Nat.le_of_ble_eq_true (Eq.refl true) | decide))))); (conv => whnf)) <;> (exact rfl))); apply And.intro; (focus exact rfl); (conv => whnf))
  ((repeat (first | ((conv => whnf); (with_reducible refine And.intro ?_ ?_); (focus (first | exact Eq.refl _ | exact trivial | exact Int.natCast_nonneg _ | assumption | exact Nat.le_of_ble_eq_true (Eq.refl true) | decide))))); (conv => whnf); apply Exists.intro; apply Exists.intro; apply And.intro; (focus (((repeat (first | ((conv => whnf); (with_reducible refine And.intro ?_ ?_); (focus (first | exact Eq.refl _ | exact trivial | exact Int.natCast_nonneg _ | assumption | exact Nat.le_of_ble_eq_true (Eq.refl true) | decide))))); (conv => whnf)) <;> (exact rfl))); apply And.intro; (focus exact rfl); (conv => whnf))
  ((repeat (first | ((conv => whnf); (with_reducible refine And.intro ?_ ?_); (focus (first | exact Eq.refl _ | exact trivial | exact Int.natCast_nonneg _ | assumption | exact Nat.le_of_ble_eq_true (Eq.refl true) | decide))))); (conv => whnf); apply Exists.intro; apply Exists.intro; apply And.intro; (focus (((repeat (first | ((conv => whnf); (with_reducible refine And.intro ?_ ?_); (focus (first | exact Eq.refl _ | exact trivial | exact Int.natCast_nonneg _ | assumption | exact Nat.le_of_ble_eq_true (Eq.refl true) | decide))))); (conv => whnf)) <;> (exact rfl))); apply And.intro; (focus exact rfl); (conv => whnf))
  ((repeat (first | ((conv => whnf); (with_reducible refine And.intro ?_ ?_); (focus (first | exact Eq.refl _ | exact trivial | exact Int.natCast_nonneg _ | assumption | exact Nat.le_of_ble_eq_true (Eq.refl true) | decide))))); (conv => whnf); apply Exists.intro; apply Exists.intro; apply And.intro; (focus (((repeat (first | ((conv => whnf); (with_reducible refine And.intro ?_ ?_); (focus (first | exact Eq.refl _ | exact trivial | exact Int.natCast_nonneg _ | assumption | exact Nat.le_of_ble_eq_true (Eq.refl true) | decide))))); (conv => whnf)) <;> (exact rfl))); apply And.intro; (focus exact rfl); (conv => whnf))
  ((repeat (first | ((conv => whnf); (with_reducible refine And.intro ?_ ?_); (focus (first | exact Eq.refl _ | exact trivial | exact Int.natCast_nonneg _ | assumption | exact Nat.le_of_ble_eq_true (Eq.refl true) | decide))))); (conv => whnf); apply Exists.intro; apply Exists.intro; apply And.intro; (focus (((repeat (first | ((conv => whnf); (with_reducible refine And.intro ?_ ?_); (focus (first | exact Eq.refl _ | exact trivial | exact Int.natCast_nonneg _ | assumption | exact Nat.le_of_ble_eq_true (Eq.refl true) | decide))))); (conv => whnf)) <;> (exact rfl))); apply And.intro; (focus exact rfl); (conv => whnf))
  ((repeat (first | ((conv => whnf); (with_reducible refine And.intro ?_ ?_); (focus (first | exact Eq.refl _ | exact trivial | exact Int.natCast_nonneg _ | assumption | exact Nat.le_of_ble_eq_true (Eq.refl true) | decide))))); (conv => whnf); apply Exists.intro; apply Exists.intro; apply And.intro; (focus (((repeat (first | ((conv => whnf); (with_reducible refine And.intro ?_ ?_); (focus (first | exact Eq.refl _ | exact trivial | exact Int.natCast_nonneg _ | assumption | exact Nat.le_of_ble_eq_true (Eq.refl true) | decide))))); (conv => whnf)) <;> (exact rfl))); apply And.intro; (focus exact rfl); (conv => whnf))
  ((repeat (first | ((conv => whnf); (with_reducible refine And.intro ?_ ?_); (focus (first | exact Eq.refl _ | exact trivial | exact Int.natCast_nonneg _ | assumption | exact Nat.le_of_ble_eq_true (Eq.refl true) | decide))))); (conv => whnf); apply Exists.intro; apply Exists.intro; apply And.intro; (focus (((repeat (first | ((conv => whnf); (with_reducible refine And.intro ?_ ?_); (focus (first | exact Eq.refl _ | exact trivial | exact Int.natCast_nonneg _ | assumption | exact Nat.le_of_ble_eq_true (Eq.refl true) | decide))))); (conv => whnf)) <;> ((intro hlen0; (try rw [List.length_map]))) <;> ((repeat (first | ((conv => whnf); (with_reducible refine And.intro ?_ ?_); (focus (first | exact Eq.refl _ | exact trivial | exact Int.natCast_nonneg _ | assumption | exact Nat.le_of_ble_eq_true (Eq.refl true) | decide))))); (conv => whnf)) <;> (exact rfl))); apply And.intro; (focus exact rfl); (conv => whnf))
  (repeat (first | ((conv => whnf); (with_reducible refine And.intro ?_ ?_); (focus (first | exact Eq.refl _ | exact trivial | exact Int.natCast_nonneg _ | assumption | exact Nat.le_of_ble_eq_true (Eq.refl true) | decide))))); (conv => whnf)
  refine nd (by decide) _ _ _ ?_
  (conv => whnf)
  refine branch_hF hF (fun hc2 hF => ?_) (fun hc2 hF => ?_)
  · refine AWP.seq ?_
    refine nd (by decide) _ _ _ ?_
    (repeat (first | ((conv => whnf); (with_reducible refine And.intro ?_ ?_); (focus (first | exact Eq.refl _ | exact trivial | exact Int.natCast_nonneg _ | assumption | exact Nat.le_of_ble_eq_true (Eq.refl true) | decide))))); (conv => whnf)
    refine AWP.seq ?_
    refine nd (by decide) _ _ _ ?_
    (repeat (first | ((conv => whnf); (with_reducible refine And.intro ?_ ?_); (focus (first | exact Eq.refl _ | exact trivial | exact Int.natCast_nonneg _ | assumption | exact Nat.le_of_ble_eq_true (Eq.refl true) | decide))))); (conv => whnf)
    obtain rfl := some_eq hF
    refine nd (by decide) _ _ _ ?_
    (repeat (first | ((conv => whnf); (with_reducible refine And.intro ?_ ?_); (focus (first | exact Eq.refl _ | exact trivial | exact Int.natCast_nonneg _ | assumption | exact Nat.le_of_ble_eq_true (Eq.refl true) | decide))))); (conv => whnf)
    exact Exists.intro (rn []) (WS.mk (wt_cons (wd_c (WE.refl _)) wt_nil) (wb_cons rfl (wc_c (WE.refl _) (wc_c (WE.refl _) (wc_c (WE.refl _) wc_nil))) wb_nil))
  · refine nd (by decide) _ _ _ ?_
    (conv => whnf)
    refine AWP.seq ?_
    refine nd (by decide) _ _ _ ?_
    (repeat (first | ((conv => whnf); (with_reducible refine And.intro ?_ ?_); (focus (first | exact Eq.refl _ | exact trivial | exact Int.natCast_nonneg _ | assumption | exact Nat.le_of_ble_eq_true (Eq.refl true) | decide))))); (conv => whnf)
    refine AWP.seq ?_
    obtain ⟨x3, hx30, hx3, hF⟩ := ix_some hF
    refine nd (by decide) _ _ _ ?_
    refine Exists.intro 9 (Exists.intro [[], [], [], [], [], [], [], [], []] (Exists.intro [([23, 24, 25, 26, 27, 28, 29, 30, 31], [], []), ([24, 25, 26, 27, 28, 29, 30, 31], [], []), ([25, 26, 27, 28, 29, 30, 31], [], []), ([26, 27, 28, 29, 30, 31], [], []), ([23, 24, 25, 26, 27, 28, 29, 30, 31], [], []), ([23, 24, 25, 26, 28, 29, 30, 31], [], []), ([23, 24, 25, 26, 29, 30, 31], [], []), ([23, 24, 25, 26, 30, 31], [], []), ([23, 24, 25, 26, 31], [], [])] (Exists.intro [23, 24, 25, 26, 27, 28, 29, 30, 31] (And.intro (by decide +kernel) ?_))))
    ((repeat (first | ((conv => whnf); (with_reducible refine And.intro ?_ ?_); (focus (first | exact Eq.refl _ | exact trivial | exact Int.natCast_nonneg _ | assumption | exact Nat.le_of_ble_eq_true (Eq.refl true) | decide))))); (conv => whnf); apply Exists.intro; apply Exists.intro; apply And.intro; (focus (((repeat (first | ((conv => whnf); (with_reducible refine And.intro ?_ ?_); (focus (first | exact Eq.refl _ | exact trivial | exact Int.natCast_nonneg _ | assumption | exact Nat.le_of_ble_eq_true (Eq.refl true) | decide))))); (conv => whnf)) <;> (exact rfl))); apply And.intro; (focus exact rfl); (conv => whnf))
    ((repeat (first | ((conv => whnf); (with_reducible refine And.intro ?_ ?_); (focus (first | exact Eq.refl _ | exact trivial | exact Int.natCast_nonneg _ | assumption | exact Nat.le_of_ble_eq_true (Eq.refl true) | decide))))); (conv => whnf); apply Exists.intro; apply Exists.intro; apply And.intro; (focus (((repeat (first | ((conv => whnf); (with_reducible refine And.intro ?_ ?_); (focus (first | exact Eq.refl _ | exact trivial | exact Int.natCast_nonneg _ | assumption | exact Nat.le_of_ble_eq_true (Eq.refl true) | decide))))); (conv => whnf)) <;> (exact rfl))); apply And.intro; (focus exact rfl); (conv => whnf))
    ((repeat (first | ((conv => whnf); (with_reducible refine And.intro ?_ ?_); (focus (first | exact Eq.refl _ | exact trivial | exact Int.natCast_nonneg _ | assumption | exact Nat.le_of_ble_eq_true (Eq.refl true) | decide))))); (conv => whnf); apply Exists.intro; apply Exists.intro; apply And.intro; (focus (((repeat (first | ((conv => whnf); (with_reducible refine And.intro ?_ ?_); (focus (first | exact Eq.refl _ | exact trivial | exact Int.natCast_nonneg _ | assumption | exact Nat.le_of_ble_eq_true (Eq.refl true) | decide))))); (conv => whnf)) <;> (exact rfl))); apply And.intro; (focus exact rfl); (conv => whnf))
    ((repeat (first | ((conv => whnf); (with_reducible refine And.intro ?_ ?_); (focus (first | exact Eq.refl _ | exact trivial | exact Int.natCast_nonneg _ | assumption | exact Nat.le_of_ble_eq_true (Eq.refl true) | decide))))); (conv => whnf); apply Exists.intro; apply Exists.intro; apply And.intro; (focus (((repeat (first | ((conv => whnf); (with_reducible refine And.intro ?_ ?_); (focus (first | exact Eq.refl _ | exact trivial | exact Int.natCast_nonneg _ | assumption | exact Nat.le_of_ble_eq_true (Eq.refl true) | decide))))); (conv => whnf)) <;> (exact rfl))); apply And.intro; (focus exact rfl); (conv => whnf))
    ((repeat (first | ((conv => whnf); (with_reducible refine And.intro ?_ ?_); (focus (first | exact Eq.refl _ | exact trivial | exact Int.natCast_nonneg _ | assumption | exact Nat.le_of_ble_eq_true (Eq.refl true) | decide))))); (conv => whnf); apply Exists.intro; apply Exists.intro; apply And.intro; (focus (((repeat (first | ((conv => whnf); (with_reducible refine And.intro ?_ ?_); (focus (first | exact Eq.refl _ | exact trivial | exact Int.natCast_nonneg _ | assumption | exact Nat.le_of_ble_eq_true (Eq.refl true) | decide))))); (conv => whnf)) <;> (exact rfl))); apply And.intro; (focus exact rfl); (conv => whnf))
    ((repeat (first | ((conv => whnf); (with_reducible refine And.intro ?_ ?_); (focus (first | exact Eq.refl _ | exact trivial | exact Int.natCast_nonneg _ | assumption | exact Nat.le_of_ble_eq_true (Eq.refl true) | decide))))); (conv => whnf); apply Exists.intro; apply Exists.intro; apply And.intro; (focus (((repeat (first | ((conv => whnf); (with_reducible refine And.intro ?_ ?_); (focus (first | exact Eq.refl _ | exact trivial | exact Int.natCast_nonneg _ | assumption | exact Nat.le_of_ble_eq_true (Eq.refl true) | decide))))); (conv => whnf)) <;> (exact rfl))); apply And.intro; (focus exact rfl); (conv => whnf))
    ((repeat (first | ((conv => whnf); (with_reducible refine And.intro ?_ ?_); (focus (first | exact Eq.refl _ | exact trivial | exact Int.natCast_nonneg _ | assumption | exact Nat.le_of_ble_eq_true (Eq.refl true) | decide))))); (conv => whnf); apply Exists.intro; apply Exists.intro; apply And.intro; (focus (((repeat (first | ((conv => whnf); (with_reducible refine And.intro ?_ ?_); (focus (first | exact Eq.refl _ | exact trivial | exact Int.natCast_nonneg _ | assumption | exact Nat.le_of_ble_eq_true (Eq.refl true) | decide))))); (conv => whnf)) <;> (exact rfl))); apply And.intro; (focus exact rfl); (conv => whnf))
    ((repeat (first | ((conv => whnf); (with_reducible refine And.intro ?_ ?_); (focus (first | exact Eq.refl _ | exact trivial | exact Int.natCast_nonneg _ | assumption | exact Nat.le_of_ble_eq_true (Eq.refl true) | decide))))); (conv => whnf); apply Exists.intro; apply Exists.intro; apply And.intro; (focus (((repeat (first | ((conv => whnf); (with_reducible refine And.intro ?_ ?_); (focus (first | exact Eq.refl _ | exact trivial | exact Int.natCast_nonneg _ | assumption | exact Nat.le_of_ble_eq_true (Eq.refl true) | decide))))); (conv => whnf)) <;> (exact rfl))); apply And.intro; (focus exact rfl); (conv => whnf))
    ((repeat (first | ((conv => whnf); (with_reducible refine And.intro ?_ ?_); (focus (first | exact Eq.refl _ | exact trivial | exact Int.natCast_nonneg _ | assumption | exact Nat.le_of_ble_eq_true (Eq.refl true) | decide))))); (conv => whnf); apply Exists.intro; apply Exists.intro; apply And.intro; (focus (((repeat (first | ((conv => whnf); (with_reducible refine And.intro ?_ ?_); (focus (first | exact Eq.refl _ | exact trivial | exact Int.natCast_nonneg _ | assumption | exact Nat.le_of_ble_eq_true (Eq.refl true) | decide))))); (conv => whnf)) <;> (exact rfl))); apply And.intro; (focus exact rfl); (conv => whnf))
    (repeat (first | ((conv => whnf); (with_reducible refine And.intro ?_ ?_); (focus (first | exact Eq.refl _ | exact trivial | exact Int.natCast_nonneg _ | assumption | exact Nat.le_of_ble_eq_true (Eq.refl true) | decide))) | ((conv => whnf); rw [map_getI rfl hx3]))); (conv => whnf)
    (repeat (first | ((conv => whnf); (with_reducible refine And.intro ?_ ?_); (focus (first | exact Eq.refl _ | exact trivial | exact Int.natCast_nonneg _ | assumption | exact Nat.le_of_ble_eq_true (Eq.refl true) | decide))))); (conv => whnf)
    obtain rfl := some_eq hF
    refine nd (by decide) _ _ _ ?_
    (repeat (first | ((conv => whnf); (with_reducible refine And.intro ?_ ?_); (focus (first | exact Eq.refl _ | exact trivial | exact Int.natCast_nonneg _ | assumption | exact Nat.le_of_ble_eq_true (Eq.refl true) | decide))))); (conv => whnf)
    exact Exists.intro (rn []) (WS.mk (wt_cons (wd_c (WE.refl _)) wt_nil) (wb_cons rfl (wc_c (WE.refl _) (wc_c (WE.refl _) (wc_c (WE.refl _) wc_nil))) wb_nil))
end Go.Proofs.YtafniolcakiljaaDoor

set_option linter.unusedVariables false
set_option linter.unusedSimpArgs false
set_option maxRecDepth 100000
set_option maxHeartbeats 4000000
namespace Go.Proofs.YtafniolcakiljaaDoor
open Go Go.Am
def values_reader_number (r_ : Tvalues_reader) (s : ByteArray) : Option (Int × Tvalues_reader) :=
  strconv_Atoi s >>= fun r1 =>
  if r1.2 = true then
  some (r1.1, Tvalues_reader.mk r_.fwords r_.fat true)
  else
  some (r1.1, r_)
def values_reader_number.M (r_ : Tvalues_reader) (s : ByteArray) (r : Int × Tvalues_reader) : Prop :=
  CallsX Tryd.prog 72 [.ptr 1000 0, .c none (.v (.string s))] [(1000, [(none, .sl (r_.fwords.map c_S)), (none, .v (.int .i64 r_.fat)), (none, .v (.bool r_.fbad))])] (fun d b => d = .c none (.v (.int .i64 r.1)) ∧ b = [(1000, [(none, .sl (r.2.fwords.map c_S)), (none, .v (.int .i64 r.2.fat)), (none, .v (.bool r.2.fbad))])])
theorem values_reader_number_ok (r_ : Tvalues_reader) (s : ByteArray) (r : Int × Tvalues_reader) (hF : values_reader_number r_ s = some r) : values_reader_number.M r_ s r := by
  unfold values_reader_number at hF
  unfold values_reader_number.M
  refine enter tabOk Tryd.func72 rfl (by decide) (Nat.le_of_ble_eq_true rfl) rfl rfl rfl ?_
  refine AWP.seq ?_
  refine nd (by decide) _ _ _ ?_
  (repeat (first | ((conv => whnf); (with_reducible refine And.intro ?_ ?_); (focus (first | exact Eq.refl _ | exact trivial | exact Int.natCast_nonneg _ | assumption | exact Nat.le_of_ble_eq_true (Eq.refl true) | decide))))); (conv => whnf)
  refine AWP.seq ?_
  obtain ⟨r1, hr1, hF⟩ := bind_some hF
  refine nd (by decide) _ _ _ ?_
  (repeat (first | ((conv => whnf); (with_reducible refine And.intro ?_ ?_); (focus (first | exact Eq.refl _ | exact trivial | exact Int.natCast_nonneg _ | assumption | exact Nat.le_of_ble_eq_true (Eq.refl true) | decide))))); (conv => whnf)
  refine Exists.intro [] ?_
  (repeat (first | ((conv => whnf); (with_reducible refine And.intro ?_ ?_); (focus (first | exact Eq.refl _ | exact trivial | exact Int.natCast_nonneg _ | assumption | exact Nat.le_of_ble_eq_true (Eq.refl true) | decide))))); (conv => whnf)
  refine CallsX.mono (CallsX.weak (rn []) (strconv_Atoi_ok s _ hr1) rfl (WS.mk (wt_cons (wd_c (WE.refl _)) wt_nil) wb_nil)) ?_
  rintro d b ⟨rfl, rfl⟩
  (repeat (first | ((conv => whnf); (with_reducible refine And.intro ?_ ?_); (focus (first | exact Eq.refl _ | exact trivial | exact Int.natCast_nonneg _ | assumption | exact Nat.le_of_ble_eq_true (Eq.refl true) | decide))))); (conv => whnf)
  (repeat (first | ((conv => whnf); (with_reducible refine And.intro ?_ ?_); (focus (first | exact Eq.refl _ | exact trivial | exact Int.natCast_nonneg _ | assumption | exact Nat.le_of_ble_eq_true (Eq.refl true) | decide))))); (conv => whnf)
  refine AWP.seq ?_
  refine AWP.seq ?_
  refine nd (by decide) _ _ _ ?_
  (repeat (first | ((conv => whnf); (with_reducible refine And.intro ?_ ?_); (focus (first | exact Eq.refl _ | exact trivial | exact Int.natCast_nonneg _ | assumption | exact Nat.le_of_ble_eq_true (Eq.refl true) | decide))))); (conv => whnf)
  refine nd (by decide) _ _ _ ?_
  (conv => whnf)
  refine branch_hF hF (fun hc2 hF => ?_) (fun hc2 hF => ?_)
  · refine nd (by decide) _ _ _ ?_
    (repeat (first | ((conv => whnf); (with_reducible refine And.intro ?_ ?_); (focus (first | exact Eq.refl _ | exact trivial | exact Int.natCast_nonneg _ | assumption | exact Nat.le_of_ble_eq_true (Eq.refl true) | decide))))); (conv => whnf)
    refine AWP.seq ?_
    refine nd (by decide) _ _ _ ?_
    (repeat (first | ((conv => whnf); (with_reducible refine And.intro ?_ ?_); (focus (first | exact Eq.refl _ | exact trivial | exact Int.natCast_nonneg _ | assumption | exact Nat.le_of_ble_eq_true (Eq.refl true) | decide))))); (conv => whnf)
    obtain rfl := some_eq hF
    refine nd (by decide) _ _ _ ?_
    (repeat (first | ((conv => whnf); (with_reducible refine And.intro ?_ ?_); (focus (first | exact Eq.refl _ | exact trivial | exact Int.natCast_nonneg _ | assumption | exact Nat.le_of_ble_eq_true (Eq.refl true) | decide))))); (conv => whnf)
    exact Exists.intro (rn []) (WS.mk (wt_cons (wd_c (WE.refl _)) wt_nil) (wb_cons rfl (wc_c (WE.refl _) (wc_c (WE.refl _) (wc_c (WE.refl _) wc_nil))) wb_nil))
  · refine nd (by decide) _ _ _ ?_
    (conv => whnf)
    refine AWP.seq ?_
    refine nd (by decide) _ _ _ ?_
    (repeat (first | ((conv => whnf); (with_reducible refine And.intro ?_ ?_); (focus (first | exact Eq.refl _ | exact trivial | exact Int.natCast_nonneg _ | assumption | exact Nat.le_of_ble_eq_true (Eq.refl true) | decide))))); (conv => whnf)
    obtain rfl := some_eq hF
    refine nd (by decide) _ _ _ ?_
    (repeat (first | ((conv => whnf); (with_reducible refine And.intro ?_ ?_); (focus (first | exact Eq.refl _ | exact trivial | exact Int.natCast_nonneg _ | assumption | exact Nat.le_of_ble_eq_true (Eq.refl true) | decide))))); (conv => whnf)
    exact Exists.intro (rn []) (WS.mk (wt_cons (wd_c (WE.refl _)) wt_nil) (wb_cons rfl (wc_c (WE.refl _) (wc_c (WE.refl _) (wc_c (WE.refl _) wc_nil))) wb_nil))
end Go.Proofs.YtafniolcakiljaaDoor

set_option linter.unusedVariables false
set_option linter.unusedSimpArgs false
set_option maxRecDepth 100000
set_option maxHeartbeats 4000000
namespace Go.Proofs.YtafniolcakiljaaDoor
open Go Go.Am
def values_reader_set_k1 (s_3_1 : (List TExc)) (c_1000_0_s : Tvalues_reader) : Option (TExcSet × Tvalues_reader) :=
  some (TExcSet.mk false s_3_1, c_1000_0_s)
def values_reader_set_k1.M (s_3_1 : (List TExc)) (c_1000_0_s : Tvalues_reader) (r : TExcSet × Tvalues_reader) : Prop :=
  AWP Tryd.prog 26 (Code.sub (bodyOf Tryd.f71) [1, 1, 1]) (Code.cont Tryd.prog 26 (bodyOf Tryd.f71) [1, 1, 1] (endK tab Tryd.f71.results [1000] (WRes (.agg [.v (.bool r.1.fAll), .sl (r.1.fList.map TExc.cells)]) [(1000, [(none, .sl (r.2.fwords.map c_S)), (none, .v (.int .i64 r.2.fat)), (none, .v (.bool r.2.fbad))])]))) ⟨[(2, .ptr 2 0), (3, .ptr 3 0)], [(2, [(none, .v (.bool false)), (none, .nils)]), (3, [(none, .v (.bool false)), ((some (4151, 41)), .sl (s_3_1.map TExc.cells))]), (1000, [(none, .sl (c_1000_0_s.fwords.map c_S)), (none, .v (.int .i64 c_1000_0_s.fat)), (none, .v (.bool c_1000_0_s.fbad))])]⟩
theorem values_reader_set_k1_ok (s_3_1 : (List TExc)) (c_1000_0_s : Tvalues_reader) (r : TExcSet × Tvalues_reader) (hF : values_reader_set_k1 s_3_1 c_1000_0_s = some r) : values_reader_set_k1.M s_3_1 c_1000_0_s r := by
  unfold values_reader_set_k1 at hF
  unfold values_reader_set_k1.M
  refine AWP.seq ?_
  refine nd (by decide) _ _ _ ?_
  (repeat (first | ((conv => whnf); (with_reducible refine And.intro ?_ ?_); (focus (first | exact Eq.refl _ | exact trivial | exact Int.natCast_nonneg _ | assumption | exact Nat.le_of_ble_eq_true (Eq.refl true) | decide))))); (conv => whnf)
  obtain rfl := some_eq hF
  refine nd (by decide) _ _ _ ?_
  (repeat (first | ((conv => whnf); (with_reducible refine And.intro ?_ ?_); (focus (first | exact Eq.refl _ | exact trivial | exact Int.natCast_nonneg _ | assumption | exact Nat.le_of_ble_eq_true (Eq.refl true) | decide))))); (conv => whnf)
  exact Exists.intro (rn []) (WS.mk (wt_cons (wd_agg (wl_cons (WE.refl _) (wl_cons (WE.refl _) wl_nil))) wt_nil) (wb_cons rfl (wc_c (WE.refl _) (wc_c (WE.refl _) (wc_c (WE.refl _) wc_nil))) wb_nil))
end Go.Proofs.YtafniolcakiljaaDoor

set_option linter.unusedVariables false
set_option linter.unusedSimpArgs false
set_option maxRecDepth 100000
set_option maxHeartbeats 4000000
namespace Go.Proofs.YtafniolcakiljaaDoor
open Go Go.Am
def values_reader_set_l2 (s_3_1 : (List TExc)) (c_1000_0_s : Tvalues_reader) : Option (TExcSet × Tvalues_reader) :=
  if (!c_1000_0_s.fbad) = true then
  values_reader_next c_1000_0_s >>= fun r43 =>
  if (r43.1.toList == (ByteArray.mk #[125]).toList) = true then
  values_reader_set_k1 s_3_1 r43.2
  else
  values_reader_next r43.2 >>= fun r46 =>
  values_reader_number r46.2 r46.1 >>= fun r47 =>
  guardP ((s_3_1.length + ([(TExc.mk r43.1 r47.1)]).length) * 24 ≤ 140737488355328) >>= fun _ =>
  values_reader_set_l2 (s_3_1 ++ ([(TExc.mk r43.1 r47.1)])) r47.2
  else
  values_reader_set_k1 s_3_1 c_1000_0_s
  partial_fixpoint
def values_reader_set_l2.M (s_3_1 : (List TExc)) (c_1000_0_s : Tvalues_reader) (r : TExcSet × Tvalues_reader) : Prop :=
  AWL Tryd.prog 26 (Code.sub (bodyOf Tryd.f71) [1, 1, 0, 0, 0]) (Code.cont Tryd.prog 26 (bodyOf Tryd.f71) [1, 1, 0, 0] (endK tab Tryd.f71.results [1000] (WRes (.agg [.v (.bool r.1.fAll), .sl (r.1.fList.map TExc.cells)]) [(1000, [(none, .sl (r.2.fwords.map c_S)), (none, .v (.int .i64 r.2.fat)), (none, .v (.bool r.2.fbad))])]))) ⟨[(0, .ptr 1000 0), (2, .ptr 2 0), (3, .ptr 3 0)], [(2, [(none, .v (.bool false)), (none, .nils)]), (3, [(none, .v (.bool false)), ((some (4151, 41)), .sl (s_3_1.map TExc.cells))]), (1000, [(none, .sl (c_1000_0_s.fwords.map c_S)), (none, .v (.int .i64 c_1000_0_s.fat)), (none, .v (.bool c_1000_0_s.fbad))])]⟩
theorem values_reader_set_l2_ok (s_3_1 : (List TExc)) (c_1000_0_s : Tvalues_reader) : ∀ r, values_reader_set_l2 s_3_1 c_1000_0_s = some r → values_reader_set_l2.M s_3_1 c_1000_0_s r := by
  refine values_reader_set_l2.partial_correctness (fun s_3_1 c_1000_0_s r => values_reader_set_l2.M s_3_1 c_1000_0_s r) ?_ s_3_1 c_1000_0_s
  intro values_reader_set_l2' ih0_values_reader_set_l2 s_3_1 c_1000_0_s r hF
  have ih_values_reader_set_l2 := fun (s_3_1 : (List TExc)) (c_1000_0_s : Tvalues_reader) => ih0_values_reader_set_l2 s_3_1 c_1000_0_s
  clear ih0_values_reader_set_l2
  unfold values_reader_set_l2.M
  refine AWL.step ?_
  refine AWP.seq ?_
  refine AWP.seq ?_
  refine nd (by decide) _ _ _ ?_
  (repeat (first | ((conv => whnf); (with_reducible refine And.intro ?_ ?_); (focus (first | exact Eq.refl _ | exact trivial | exact Int.natCast_nonneg _ | assumption | exact Nat.le_of_ble_eq_true (Eq.refl true) | decide))))); (conv => whnf)
  refine nd (by decide) _ _ _ ?_
  (conv => whnf)
  refine branch_hF hF (fun hc42 hF => ?_) (fun hc42 hF => ?_)
  · refine nd (by decide) _ _ _ ?_
    (conv => whnf)
    refine AWP.block ?_
    refine AWP.seq ?_
    obtain ⟨r43, hr43, hF⟩ := bind_some hF
    refine nd (by decide) _ _ _ ?_
    (repeat (first | ((conv => whnf); (with_reducible refine And.intro ?_ ?_); (focus (first | exact Eq.refl _ | exact trivial | exact Int.natCast_nonneg _ | assumption | exact Nat.le_of_ble_eq_true (Eq.refl true) | decide))))); (conv => whnf)
    refine Exists.intro [] ?_
    (repeat (first | ((conv => whnf); (with_reducible refine And.intro ?_ ?_); (focus (first | exact Eq.refl _ | exact trivial | exact Int.natCast_nonneg _ | assumption | exact Nat.le_of_ble_eq_true (Eq.refl true) | decide))))); (conv => whnf)
    refine CallsX.mono (CallsX.weak (rn []) (values_reader_next_ok c_1000_0_s _ hr43) rfl (WS.mk (wt_cons wd_ptr wt_nil) (wb_cons rfl (wc_c (WE.refl _) (wc_c (WE.refl _) (wc_c (WE.refl _) wc_nil))) wb_nil))) ?_
    rintro d b ⟨rfl, rfl⟩
    (repeat (first | ((conv => whnf); (with_reducible refine And.intro ?_ ?_); (focus (first | exact Eq.refl _ | exact trivial | exact Int.natCast_nonneg _ | assumption | exact Nat.le_of_ble_eq_true (Eq.refl true) | decide))))); (conv => whnf)
    (repeat (first | ((conv => whnf); (with_reducible refine And.intro ?_ ?_); (focus (first | exact Eq.refl _ | exact trivial | exact Int.natCast_nonneg _ | assumption | exact Nat.le_of_ble_eq_true (Eq.refl true) | decide))))); (conv => whnf)
    refine AWP.seq ?_
    refine AWP.seq ?_
    refine nd (by decide) _ _ _ ?_
    (repeat (first | ((conv => whnf); (with_reducible refine And.intro ?_ ?_); (focus (first | exact Eq.refl _ | exact trivial | exact Int.natCast_nonneg _ | assumption | exact Nat.le_of_ble_eq_true (Eq.refl true) | decide))))); (conv => whnf)
    refine nd (by decide) _ _ _ ?_
    (conv => whnf)
    refine branch_hF hF (fun hc45 hF => ?_) (fun hc45 hF => ?_)
    · refine nd (by decide) _ _ _ ?_
      (conv => whnf)
      refine AWP.weak (rn [(4151, 4151)]) ?_ (values_reader_set_k1_ok s_3_1 r43.2 _ hF)
      exact (WS.mk (wt_cons wd_ptr (wt_cons wd_ptr wt_nil)) (wb_cons rfl (wc_c (WE.refl _) (wc_c (WE.refl _) wc_nil)) (wb_cons rfl (wc_c (WE.refl _) (wc_own rfl (WE.refl _) wc_nil)) (wb_cons rfl (wc_c (WE.refl _) (wc_c (WE.refl _) (wc_c (WE.refl _) wc_nil))) wb_nil))))
    · refine nd (by decide) _ _ _ ?_
      (conv => whnf)
      obtain ⟨r46, hr46, hF⟩ := bind_some hF
      obtain ⟨r47, hr47, hF⟩ := bind_some hF
      obtain ⟨hg48, hF⟩ := guard_some hF
      refine nd (by decide) _ _ _ ?_
      refine Exists.intro 9 (Exists.intro [[], [], [], [], [], [1000], [1000], [], []] (Exists.intro [([14, 15, 16, 17, 18, 19, 20, 21, 22], [1000, 1000], []), ([15, 16, 17, 18, 19, 20, 21, 22], [1000, 1000], []), ([14, 15, 16, 17, 18, 19, 20, 21, 22], [1000, 1000], []), ([14, 15, 16, 17, 18, 19, 20, 21, 22], [1000], []), ([14, 15, 16, 17, 18, 19, 20, 21, 22], [], []), ([14, 15, 16, 17, 19, 20, 21, 22], [], [1000]), ([14, 15, 16, 20, 21, 22], [], [1000]), ([14, 15, 21, 22], [], []), ([14, 15, 22], [], [])] (Exists.intro [14, 15, 16, 17, 18, 19, 20, 21, 22] (And.intro (by decide +kernel) ?_))))
      ((repeat (first | ((conv => whnf); (with_reducible refine And.intro ?_ ?_); (focus (first | exact Eq.refl _ | exact trivial | exact Int.natCast_nonneg _ | assumption | exact Nat.le_of_ble_eq_true (Eq.refl true) | decide))))); (conv => whnf); apply Exists.intro; apply Exists.intro; apply And.intro; (focus (((repeat (first | ((conv => whnf); (with_reducible refine And.intro ?_ ?_); (focus (first | exact Eq.refl _ | exact trivial | exact Int.natCast_nonneg _ | assumption | exact Nat.le_of_ble_eq_true (Eq.refl true) | decide))))); (conv => whnf)) <;> (exact rfl))); apply And.intro; (focus exact rfl); (conv => whnf))
      ((repeat (first | ((conv => whnf); (with_reducible refine And.intro ?_ ?_); (focus (first | exact Eq.refl _ | exact trivial | exact Int.natCast_nonneg _ | assumption | exact Nat.le_of_ble_eq_true (Eq.refl true) | decide))))); (conv => whnf); apply Exists.intro; apply Exists.intro; apply And.intro; (focus (((repeat (first | ((conv => whnf); (with_reducible refine And.intro ?_ ?_); (focus (first | exact Eq.refl _ | exact trivial | exact Int.natCast_nonneg _ | assumption | exact Nat.le_of_ble_eq_true (Eq.refl true) | decide))))); (conv => whnf)) <;> (exact rfl))); apply And.intro; (focus exact rfl); (conv => whnf))
      ((repeat (first | ((conv => whnf); (with_reducible refine And.intro ?_ ?_); (focus (first | exact Eq.refl _ | exact trivial | exact Int.natCast_nonneg _ | assumption | exact Nat.le_of_ble_eq_true (Eq.refl true) | decide))))); (conv => whnf); apply Exists.intro; apply Exists.intro; apply And.intro; (focus (((repeat (first | ((conv => whnf); (with_reducible refine And.intro ?_ ?_); (focus (first | exact Eq.refl _ | exact trivial | exact Int.natCast_nonneg _ | assumption | exact Nat.le_of_ble_eq_true (Eq.refl true) | decide))))); (conv => whnf)) <;> (exact rfl))); apply And.intro; (focus exact rfl); (conv => whnf))
      ((repeat (first | ((conv => whnf); (with_reducible refine And.intro ?_ ?_); (focus (first | exact Eq.refl _ | exact trivial | exact Int.natCast_nonneg _ | assumption | exact Nat.le_of_ble_eq_true (Eq.refl true) | decide))))); (conv => whnf); apply Exists.intro; apply Exists.intro; apply And.intro; (focus (((repeat (first | ((conv => whnf); (with_reducible refine And.intro ?_ ?_); (focus (first | exact Eq.refl _ | exact trivial | exact Int.natCast_nonneg _ | assumption | exact Nat.le_of_ble_eq_true (Eq.refl true) | decide))))); (conv => whnf)) <;> (exact rfl))); apply And.intro; (focus exact rfl); (conv => whnf))
      ((repeat (first | ((conv => whnf); (with_reducible refine And.intro ?_ ?_); (focus (first | exact Eq.refl _ | exact trivial | exact Int.natCast_nonneg _ | assumption | exact Nat.le_of_ble_eq_true (Eq.refl true) | decide))))); (conv => whnf); apply Exists.intro; apply Exists.intro; apply And.intro; (focus (((repeat (first | ((conv => whnf); (with_reducible refine And.intro ?_ ?_); (focus (first | exact Eq.refl _ | exact trivial | exact Int.natCast_nonneg _ | assumption | exact Nat.le_of_ble_eq_true (Eq.refl true) | decide))))); (conv => whnf)) <;> (exact rfl))); apply And.intro; (focus exact rfl); (conv => whnf))
      ((repeat (first | ((conv => whnf); (with_reducible refine And.intro ?_ ?_); (focus (first | exact Eq.refl _ | exact trivial | exact Int.natCast_nonneg _ | assumption | exact Nat.le_of_ble_eq_true (Eq.refl true) | decide))))); (conv => whnf); apply Exists.intro; apply Exists.intro; apply And.intro; (focus ((conv => whnf); refine And.intro rfl ?_; (conv => whnf); refine CallsX.mono (CallsX.weak (rn []) (values_reader_next_ok r43.2 _ hr46) rfl (WS.mk (wt_cons wd_ptr wt_nil) (wb_cons rfl (wc_c (WE.refl _) (wc_c (WE.refl _) (wc_c (WE.refl _) wc_nil))) wb_nil))) ?_; rintro d b ⟨rfl, rfl⟩; exact And.intro rfl rfl)); apply And.intro; (focus exact rfl); (conv => whnf))
      ((repeat (first | ((conv => whnf); (with_reducible refine And.intro ?_ ?_); (focus (first | exact Eq.refl _ | exact trivial | exact Int.natCast_nonneg _ | assumption | exact Nat.le_of_ble_eq_true (Eq.refl true) | decide))))); (conv => whnf); apply Exists.intro; apply Exists.intro; apply And.intro; (focus ((conv => whnf); refine And.intro rfl ?_; (conv => whnf); refine CallsX.mono (CallsX.weak (rn []) (values_reader_number_ok r46.2 r46.1 _ hr47) rfl (WS.mk (wt_cons wd_ptr (wt_cons (wd_c (WE.refl _)) wt_nil)) (wb_cons rfl (wc_c (WE.refl _) (wc_c (WE.refl _) (wc_c (WE.refl _) wc_nil))) wb_nil))) ?_; rintro d b ⟨rfl, rfl⟩; exact And.intro rfl rfl)); apply And.intro; (focus exact rfl); (conv => whnf))
      ((repeat (first | ((conv => whnf); (with_reducible refine And.intro ?_ ?_); (focus (first | exact Eq.refl _ | exact trivial | exact Int.natCast_nonneg _ | assumption | exact Nat.le_of_ble_eq_true (Eq.refl true) | decide))))); (conv => whnf); apply Exists.intro; apply Exists.intro; apply And.intro; (focus (((repeat (first | ((conv => whnf); (with_reducible refine And.intro ?_ ?_); (focus (first | exact Eq.refl _ | exact trivial | exact Int.natCast_nonneg _ | assumption | exact Nat.le_of_ble_eq_true (Eq.refl true) | decide))))); (conv => whnf)) <;> (exact rfl))); apply And.intro; (focus exact rfl); (conv => whnf))
      ((repeat (first | ((conv => whnf); (with_reducible refine And.intro ?_ ?_); (focus (first | exact Eq.refl _ | exact trivial | exact Int.natCast_nonneg _ | assumption | exact Nat.le_of_ble_eq_true (Eq.refl true) | decide))))); (conv => whnf); apply Exists.intro; apply Exists.intro; apply And.intro; (focus (((repeat (first | ((conv => whnf); (with_reducible refine And.intro ?_ ?_); (focus (first | exact Eq.refl _ | exact trivial | exact Int.natCast_nonneg _ | assumption | exact Nat.le_of_ble_eq_true (Eq.refl true) | decide))))); (conv => whnf)) <;> (refine Exists.intro _ (And.intro (we_rows (f := TExc.cells) (wl_eq (TExc.cells_eq (TExc.mk r43.1 r47.1)) (wl_cons (WE.refl _) (wl_cons (WE.refl _) wl_nil))) (we_rows_nil (f := TExc.cells))) ?_)) <;> ((repeat (first | ((conv => whnf); (with_reducible refine And.intro ?_ ?_); (focus (first | exact Eq.refl _ | exact trivial | exact Int.natCast_nonneg _ | assumption | exact Nat.le_of_ble_eq_true (Eq.refl true) | decide))))); (conv => whnf)) <;> (exact rfl))); apply And.intro; (focus exact rfl); (conv => whnf))
      (repeat (first | ((conv => whnf); (with_reducible refine And.intro ?_ ?_); (focus (first | exact Eq.refl _ | exact trivial | exact Int.natCast_nonneg _ | assumption | exact Nat.le_of_ble_eq_true (Eq.refl true) | decide))))); (conv => whnf)
      refine And.intro (by first | exact rows_map _ (fun x => TExc.cells_len x) | exact rows_nil) (And.intro (by first | exact rows_map _ (fun x => TExc.cells_len x) | exact rows_nil) (And.intro (by have h := hg48; simp only [List.length_map, List.length_append, List.length_cons, List.length_nil, Nat.zero_add] at h ⊢; first | exact h | (unfold maxLen; omega) | omega) (And.intro (by have h := hg48; simp only [List.length_map, List.length_append, List.length_cons, List.length_nil, Nat.zero_add] at h ⊢; first | exact h | (unfold maxLen; omega) | omega) (Exists.intro _ (And.intro (WE.refl _) ?_)))))
      rw [← List.map_append]
      (repeat (first | ((conv => whnf); (with_reducible refine And.intro ?_ ?_); (focus (first | exact Eq.refl _ | exact trivial | exact Int.natCast_nonneg _ | assumption | exact Nat.le_of_ble_eq_true (Eq.refl true) | decide))))); (conv => whnf)
      refine AWL.weak (rn [(23, 4151)]) ?_ (ih_values_reader_set_l2 (s_3_1 ++ ([(TExc.mk r43.1 r47.1)])) r47.2 _ hF)
      exact (WS.mk (wt_cons wd_ptr (wt_cons wd_ptr (wt_cons wd_ptr wt_nil))) (wb_cons rfl (wc_c (WE.refl _) (wc_c (WE.refl _) wc_nil)) (wb_cons rfl (wc_c (WE.refl _) (wc_own rfl (WE.refl _) wc_nil)) (wb_cons rfl (wc_c (WE.refl _) (wc_c (WE.refl _) (wc_c (WE.refl _) wc_nil))) wb_nil))))
  · refine nd (by decide) _ _ _ ?_
    (conv => whnf)
    refine AWP.weak (rn [(4151, 4151)]) ?_ (values_reader_set_k1_ok s_3_1 c_1000_0_s _ hF)
    exact (WS.mk (wt_cons wd_ptr (wt_cons wd_ptr wt_nil)) (wb_cons rfl (wc_c (WE.refl _) (wc_c (WE.refl _) wc_nil)) (wb_cons rfl (wc_c (WE.refl _) (wc_own rfl (WE.refl _) wc_nil)) (wb_cons rfl (wc_c (WE.refl _) (wc_c (WE.refl _) (wc_c (WE.refl _) wc_nil))) wb_nil))))
end Go.Proofs.YtafniolcakiljaaDoor

set_option linter.unusedVariables false
set_option linter.unusedSimpArgs false
set_option maxRecDepth 100000
set_option maxHeartbeats 4000000
namespace Go.Proofs.YtafniolcakiljaaDoor
open Go Go.Am
def values_reader_set (r_ : Tvalues_reader) : Option (TExcSet × Tvalues_reader) :=
  values_reader_set_l2 ([]) r_
def values_reader_set.M (r_ : Tvalues_reader) (r : TExcSet × Tvalues_reader) : Prop :=
  CallsX Tryd.prog 71 [.ptr 1000 0] [(1000, [(none, .sl (r_.fwords.map c_S)), (none, .v (.int .i64 r_.fat)), (none, .v (.bool r_.fbad))])] (fun d b => d = .agg [.v (.bool r.1.fAll), .sl (r.1.fList.map TExc.cells)] ∧ b = [(1000, [(none, .sl (r.2.fwords.map c_S)), (none, .v (.int .i64 r.2.fat)), (none, .v (.bool r.2.fbad))])])
theorem values_reader_set_ok (r_ : Tvalues_reader) (r : TExcSet × Tvalues_reader) (hF : values_reader_set r_ = some r) : values_reader_set.M r_ r := by
  unfold values_reader_set at hF
  unfold values_reader_set.M
  refine enter tabOk Tryd.func71 rfl (by decide) (Nat.le_of_ble_eq_true rfl) rfl rfl rfl ?_
  refine AWP.seq ?_
  refine nd (by decide) _ _ _ ?_
  (repeat (first | ((conv => whnf); (with_reducible refine And.intro ?_ ?_); (focus (first | exact Eq.refl _ | exact trivial | exact Int.natCast_nonneg _ | assumption | exact Nat.le_of_ble_eq_true (Eq.refl true) | decide))))); (conv => whnf)
  refine AWP.seq ?_
  refine nd (by decide) _ _ _ ?_
  (repeat (first | ((conv => whnf); (with_reducible refine And.intro ?_ ?_); (focus (first | exact Eq.refl _ | exact trivial | exact Int.natCast_nonneg _ | assumption | exact Nat.le_of_ble_eq_true (Eq.refl true) | decide))))); (conv => whnf)
  refine AWP.seq ?_
  refine AWP.block ?_
  refine AWP.loop ?_
  refine AWL.weak (rn []) ?_ (values_reader_set_l2_ok ([]) r_ _ hF)
  exact (WS.mk (wt_cons wd_ptr (wt_cons wd_ptr (wt_cons wd_ptr wt_nil))) (wb_cons rfl (wc_c (WE.refl _) (wc_c (WE.refl _) wc_nil)) (wb_cons rfl (wc_c (WE.refl _) (wc_nilown wc_nil)) (wb_cons rfl (wc_c (WE.refl _) (wc_c (WE.refl _) (wc_c (WE.refl _) wc_nil))) wb_nil))))
end Go.Proofs.YtafniolcakiljaaDoor

set_option linter.unusedVariables false
set_option linter.unusedSimpArgs false
set_option maxRecDepth 100000
set_option maxHeartbeats 4000000
namespace Go.Proofs.YtafniolcakiljaaDoor
open Go Go.Am
mutual
def values_reader_value (toArray : Tvalues_reader) (a1_ : Int) : Option (TValue × Tvalues_reader) :=
  values_reader_next toArray >>= fun r1 =>
  if ((r1.2.fbad || (r1.1.toList == (ByteArray.mk #[]).toList)) || (decide (a1_ > 1000))) = true then
  some (TValue.mk 0 (ByteArray.mk #[]) 0 ([] : List TValue) (TExcSet.mk false ([] : List TExc)), Tvalues_reader.mk r1.2.fwords r1.2.fat true)
  else
  if (r1.1.toList == (ByteArray.mk #[60, 102, 117, 110, 62]).toList) = true then
  some (TValue.mk 4 (ByteArray.mk #[]) 0 ([] : List TValue) (TExcSet.mk false ([] : List TExc)), r1.2)
  else
  if (r1.1.toList == (ByteArray.mk #[63]).toList) = true then
  some (TValue.mk 6 (ByteArray.mk #[]) 0 ([] : List TValue) (TExcSet.mk false ([] : List TExc)), r1.2)
  else
  if (r1.1.toList == (ByteArray.mk #[33, 42]).toList) = true then
  values_All >>= fun r66 =>
  some (TValue.mk 5 (ByteArray.mk #[]) 0 ([] : List TValue) r66, r1.2)
  else
  if (r1.1.toList == (ByteArray.mk #[33, 123]).toList) = true then
  values_reader_set r1.2 >>= fun r68 =>
  some (TValue.mk 5 (ByteArray.mk #[]) 0 ([] : List TValue) r68.1, r68.2)
  else
  if (r1.1.toList == (ByteArray.mk #[40]).toList) = true then
  values_reader_next r1.2 >>= fun r70 =>
  values_reader_value_l1 a1_ r70 ([]) r70.2
  else
  (btI r1.1 0) >>= fun y126 =>
  if (((y126.toNat : Nat) : Int) == 35) = true then
  (slS r1.1 1 ((r1.1.size : Nat) : Int)) >>= fun z128 =>
  values_reader_number r1.2 z128 >>= fun r129 =>
  some (TValue.mk 2 (ByteArray.mk #[]) r129.1 ([] : List TValue) (TExcSet.mk false ([] : List TExc)), r129.2)
  else
  (btI r1.1 0) >>= fun y137 =>
  (if (((y137.toNat : Nat) : Int) == 45) = true then some true else (btI r1.1 0) >>= fun y138 =>
  (if (decide (((y138.toNat : Nat) : Int) ≥ 48)) = true then (btI r1.1 0) >>= fun y139 =>
  some (decide (((y139.toNat : Nat) : Int) ≤ 57)) else some false) >>= fun c140 =>
  some c140) >>= fun c141 =>
  if c141 = true then
  values_reader_number r1.2 r1.1 >>= fun r145 =>
  some (TValue.mk 1 (ByteArray.mk #[]) r145.1 ([] : List TValue) (TExcSet.mk false ([] : List TExc)), r145.2)
  else
  some (TValue.mk 3 r1.1 0 ([] : List TValue) (TExcSet.mk false ([] : List TExc)), r1.2)
  partial_fixpoint
def values_reader_value_l1 (a1_ : Int) (r70 : (ByteArray × Tvalues_reader)) (c_6_3 : (List TValue)) (c_1000_0_s : Tvalues_reader) : Option (TValue × Tvalues_reader) :=
  (if ((!c_1000_0_s.fbad) && (decide (c_1000_0_s.fat < ((c_1000_0_s.fwords.length : Nat) : Int)))) = true then (ixI c_1000_0_s.fwords c_1000_0_s.fat) >>= fun x114 =>
  some (!(x114.toList == (ByteArray.mk #[41]).toList)) else some false) >>= fun c115 =>
  if c115 = true then
  values_reader_value c_1000_0_s (IntKind.i64.wrap (a1_ + 1)) >>= fun r119 =>
  guardP ((c_6_3.length + ([r119.1]).length) * 88 ≤ 140737488355328) >>= fun _ =>
  values_reader_value_l1 a1_ r70 (c_6_3 ++ ([r119.1])) r119.2
  else
  values_reader_next c_1000_0_s >>= fun r121 =>
  some (TValue.mk 3 r70.1 0 c_6_3 (TExcSet.mk false ([] : List TExc)), r121.2)
  partial_fixpoint
end
def values_reader_value.M (toArray : Tvalues_reader) (a1_ : Int) (r : TValue × Tvalues_reader) : Prop :=
  CallsX Tryd.prog 53 [.ptr 1000 0, .c none (.v (.int .i64 a1_))] [(1000, [(none, .sl (toArray.fwords.map c_S)), (none, .v (.int .i64 toArray.fat)), (none, .v (.bool toArray.fbad))])] (fun d b => d = .agg [.v (.int .i64 r.1.fOp), .v (.string r.1.fName), .v (.int .i64 r.1.fN), .sl (r.1.fKids.map TValue.cells), .v (.bool r.1.fSet.fAll), .sl (r.1.fSet.fList.map TExc.cells)] ∧ b = [(1000, [(none, .sl (r.2.fwords.map c_S)), (none, .v (.int .i64 r.2.fat)), (none, .v (.bool r.2.fbad))])])
def values_reader_value_l1.M (a1_ : Int) (r70 : (ByteArray × Tvalues_reader)) (c_6_3 : (List TValue)) (c_1000_0_s : Tvalues_reader) (r : TValue × Tvalues_reader) : Prop :=
  AWL Tryd.prog 115 (Code.sub (bodyOf Tryd.f53) [1, 1, 1, 0, 1, 0, 1, 1, 1, 1, 1, 1, 1, 1, 1, 0, 1, 0, 0, 0]) (Code.cont Tryd.prog 115 (bodyOf Tryd.f53) [1, 1, 1, 0, 1, 0, 1, 1, 1, 1, 1, 1, 1, 1, 1, 0, 1, 0, 0] (endK tab Tryd.f53.results [1000] (WRes (.agg [.v (.int .i64 r.1.fOp), .v (.string r.1.fName), .v (.int .i64 r.1.fN), .sl (r.1.fKids.map TValue.cells), .v (.bool r.1.fSet.fAll), .sl (r.1.fSet.fList.map TExc.cells)]) [(1000, [(none, .sl (r.2.fwords.map c_S)), (none, .v (.int .i64 r.2.fat)), (none, .v (.bool r.2.fbad))])]))) ⟨[(0, .ptr 1000 0), (1, .c none (.v (.int .i64 a1_))), (4, .ptr 4 0), (6, .ptr 6 0)], [(4, [(none, .v (.int .i64 0)), (none, .v (.string (ByteArray.mk #[]))), (none, .v (.int .i64 0)), (none, .nils), (none, .v (.bool false)), (none, .nils)]), (6, [(none, .v (.int .i64 3)), (none, .v (.string r70.1)), (none, .v (.int .i64 0)), ((some (4303, 28)), .sl (c_6_3.map TValue.cells)), (none, .v (.bool false)), (none, .nils)]), (1000, [(none, .sl (c_1000_0_s.fwords.map c_S)), (none, .v (.int .i64 c_1000_0_s.fat)), (none, .v (.bool c_1000_0_s.fbad))])]⟩
theorem values_reader_value_all : (∀ (toArray : Tvalues_reader) (a1_ : Int), ∀ r, values_reader_value toArray a1_ = some r → values_reader_value.M toArray a1_ r) ∧ (∀ (a1_ : Int) (r70 : (ByteArray × Tvalues_reader)) (c_6_3 : (List TValue)) (c_1000_0_s : Tvalues_reader), ∀ r, values_reader_value_l1 a1_ r70 c_6_3 c_1000_0_s = some r → values_reader_value_l1.M a1_ r70 c_6_3 c_1000_0_s r) := by
  refine values_reader_value.mutual_partial_correctness values_reader_value.M values_reader_value_l1.M ?_ ?_
  · intro values_reader_value_l1' ih_values_reader_value_l1 toArray a1_ r hF
    unfold values_reader_value.M
    refine enter tabOk Tryd.func53 rfl (by decide) (Nat.le_of_ble_eq_true rfl) rfl rfl rfl ?_
    refine AWP.seq ?_
    refine nd (by decide) _ _ _ ?_
    (repeat (first | ((conv => whnf); (with_reducible refine And.intro ?_ ?_); (focus (first | exact Eq.refl _ | exact trivial | exact Int.natCast_nonneg _ | assumption | exact Nat.le_of_ble_eq_true (Eq.refl true) | decide))))); (conv => whnf)
    refine AWP.seq ?_
    obtain ⟨r1, hr1, hF⟩ := bind_some hF
    refine nd (by decide) _ _ _ ?_
    (repeat (first | ((conv => whnf); (with_reducible refine And.intro ?_ ?_); (focus (first | exact Eq.refl _ | exact trivial | exact Int.natCast_nonneg _ | assumption | exact Nat.le_of_ble_eq_true (Eq.refl true) | decide))))); (conv => whnf)
    refine Exists.intro [] ?_
    (repeat (first | ((conv => whnf); (with_reducible refine And.intro ?_ ?_); (focus (first | exact Eq.refl _ | exact trivial | exact Int.natCast_nonneg _ | assumption | exact Nat.le_of_ble_eq_true (Eq.refl true) | decide))))); (conv => whnf)
    refine CallsX.mono (CallsX.weak (rn []) (values_reader_next_ok toArray _ hr1) rfl (WS.mk (wt_cons wd_ptr wt_nil) (wb_cons rfl (wc_c (WE.refl _) (wc_c (WE.refl _) (wc_c (WE.refl _) wc_nil))) wb_nil))) ?_
    rintro d b ⟨rfl, rfl⟩
    (repeat (first | ((conv => whnf); (with_reducible refine And.intro ?_ ?_); (focus (first | exact Eq.refl _ | exact trivial | exact Int.natCast_nonneg _ | assumption | exact Nat.le_of_ble_eq_true (Eq.refl true) | decide))))); (conv => whnf)
    (repeat (first | ((conv => whnf); (with_reducible refine And.intro ?_ ?_); (focus (first | exact Eq.refl _ | exact trivial | exact Int.natCast_nonneg _ | assumption | exact Nat.le_of_ble_eq_true (Eq.refl true) | decide))))); (conv => whnf)
    refine AWP.seq ?_
    refine AWP.seq ?_
    refine AWP.cutN (fun T => ∃ r, WS r T ⟨[(0, .ptr 1000 0), (1, .c none (.v (.int .i64 a1_))), (4, .ptr 4 0), (5, .c none (.v (.string r1.1))), (20, .c none (.v (.bool ((r1.2.fbad || (r1.1.toList == (ByteArray.mk #[]).toList)) || (decide (a1_ > 1000))))))], [(4, [(none, .v (.int .i64 0)), (none, .v (.string (ByteArray.mk #[]))), (none, .v (.int .i64 0)), (none, .nils), (none, .v (.bool false)), (none, .nils)]), (1000, [(none, .sl (r1.2.fwords.map c_S)), (none, .v (.int .i64 r1.2.fat)), (none, .v (.bool r1.2.fbad))])]⟩) ?_ (fun T hw => ?_)
    · refine nd (by decide) _ _ _ ?_
      (repeat (first | ((conv => whnf); (with_reducible refine And.intro ?_ ?_); (focus (first | exact Eq.refl _ | exact trivial | exact Int.natCast_nonneg _ | assumption | exact Nat.le_of_ble_eq_true (Eq.refl true) | decide))))); (conv => whnf)
      refine branchG_intro false (fun hc3 => ?_) (fun hc3 => ?_)
      · (conv => whnf)
        (repeat (first | ((conv => whnf); (with_reducible refine And.intro ?_ ?_); (focus (first | exact Eq.refl _ | exact trivial | exact Int.natCast_nonneg _ | assumption | exact Nat.le_of_ble_eq_true (Eq.refl true) | decide))))); (conv => whnf)
        exact Exists.intro (rn []) (WS.mk (wt_cons wd_ptr (wt_cons (wd_c (WE.refl _)) (wt_cons wd_ptr (wt_cons (wd_c (WE.refl _)) (wt_cons (wd_c (we_b (by first | exact Eq.refl _ | simp only [hc3, Bool.and_true, Bool.true_and, Bool.and_false, Bool.false_and, Bool.or_true, Bool.true_or, Bool.or_false, Bool.false_or, Bool.not_true, Bool.not_false, cond_true, cond_false, List.length_map]))) wt_nil))))) (wb_cons rfl (wc_c (WE.refl _) (wc_c (WE.refl _) (wc_c (WE.refl _) (wc_c (WE.refl _) (wc_c (WE.refl _) (wc_c (WE.refl _) wc_nil)))))) (wb_cons rfl (wc_c (WE.refl _) (wc_c (WE.refl _) (wc_c (WE.refl _) wc_nil))) wb_nil)))
      · (conv => whnf)
        (repeat (first | ((conv => whnf); (with_reducible refine And.intro ?_ ?_); (focus (first | exact Eq.refl _ | exact trivial | exact Int.natCast_nonneg _ | assumption | exact Nat.le_of_ble_eq_true (Eq.refl true) | decide))))); (conv => whnf)
        refine branchG_intro false (fun hc4 => ?_) (fun hc4 => ?_)
        · (conv => whnf)
          (repeat (first | ((conv => whnf); (with_reducible refine And.intro ?_ ?_); (focus (first | exact Eq.refl _ | exact trivial | exact Int.natCast_nonneg _ | assumption | exact Nat.le_of_ble_eq_true (Eq.refl true) | decide))))); (conv => whnf)
          exact Exists.intro (rn []) (WS.mk (wt_cons wd_ptr (wt_cons (wd_c (WE.refl _)) (wt_cons wd_ptr (wt_cons (wd_c (WE.refl _)) (wt_cons (wd_c (we_b (by first | exact Eq.refl _ | simp only [hc3, hc4, Bool.and_true, Bool.true_and, Bool.and_false, Bool.false_and, Bool.or_true, Bool.true_or, Bool.or_false, Bool.false_or, Bool.not_true, Bool.not_false, cond_true, cond_false, List.length_map]))) wt_nil))))) (wb_cons rfl (wc_c (WE.refl _) (wc_c (WE.refl _) (wc_c (WE.refl _) (wc_c (WE.refl _) (wc_c (WE.refl _) (wc_c (WE.refl _) wc_nil)))))) (wb_cons rfl (wc_c (WE.refl _) (wc_c (WE.refl _) (wc_c (WE.refl _) wc_nil))) wb_nil)))
        · (conv => whnf)
          (repeat (first | ((conv => whnf); (with_reducible refine And.intro ?_ ?_); (focus (first | exact Eq.refl _ | exact trivial | exact Int.natCast_nonneg _ | assumption | exact Nat.le_of_ble_eq_true (Eq.refl true) | decide))))); (conv => whnf)
          exact Exists.intro (rn []) (WS.mk (wt_cons wd_ptr (wt_cons (wd_c (WE.refl _)) (wt_cons wd_ptr (wt_cons (wd_c (WE.refl _)) (wt_cons (wd_c (we_b (by first | exact Eq.refl _ | simp only [hc3, hc4, Bool.and_true, Bool.true_and, Bool.and_false, Bool.false_and, Bool.or_true, Bool.true_or, Bool.or_false, Bool.false_or, Bool.not_true, Bool.not_false, cond_true, cond_false, List.length_map]))) wt_nil))))) (wb_cons rfl (wc_c (WE.refl _) (wc_c (WE.refl _) (wc_c (WE.refl _) (wc_c (WE.refl _) (wc_c (WE.refl _) (wc_c (WE.refl _) wc_nil)))))) (wb_cons rfl (wc_c (WE.refl _) (wc_c (WE.refl _) (wc_c (WE.refl _) wc_nil))) wb_nil)))
    obtain ⟨r0, hw⟩ := hw
    (conv => whnf)
    refine AWP.weak r0 hw ?_
    refine nd (by decide) _ _ _ ?_
    (conv => whnf)
    refine branch_hF hF (fun hc5 hF => ?_) (fun hc5 hF => ?_)
    · refine AWP.seq ?_
      refine nd (by decide) _ _ _ ?_
      (repeat (first | ((conv => whnf); (with_reducible refine And.intro ?_ ?_); (focus (first | exact Eq.refl _ | exact trivial | exact Int.natCast_nonneg _ | assumption | exact Nat.le_of_ble_eq_true (Eq.refl true) | decide))))); (conv => whnf)
      refine AWP.seq ?_
      refine nd (by decide) _ _ _ ?_
      (repeat (first | ((conv => whnf); (with_reducible refine And.intro ?_ ?_); (focus (first | exact Eq.refl _ | exact trivial | exact Int.natCast_nonneg _ | assumption | exact Nat.le_of_ble_eq_true (Eq.refl true) | decide))))); (conv => whnf)
      obtain rfl := some_eq hF
      refine nd (by decide) _ _ _ ?_
      (repeat (first | ((conv => whnf); (with_reducible refine And.intro ?_ ?_); (focus (first | exact Eq.refl _ | exact trivial | exact Int.natCast_nonneg _ | assumption | exact Nat.le_of_ble_eq_true (Eq.refl true) | decide))))); (conv => whnf)
      exact Exists.intro (rn []) (WS.mk (wt_cons (wd_agg (wl_cons (WE.refl _) (wl_cons (WE.refl _) (wl_cons (WE.refl _) (wl_cons WE.nil (wl_cons (WE.refl _) (wl_cons WE.nil wl_nil))))))) wt_nil) (wb_cons rfl (wc_c (WE.refl _) (wc_c (WE.refl _) (wc_c (WE.refl _) wc_nil))) wb_nil))
    · refine nd (by decide) _ _ _ ?_
      (conv => whnf)
      refine AWP.seq ?_
      refine AWP.seq ?_
      refine nd (by decide) _ _ _ ?_
      (repeat (first | ((conv => whnf); (with_reducible refine And.intro ?_ ?_); (focus (first | exact Eq.refl _ | exact trivial | exact Int.natCast_nonneg _ | assumption | exact Nat.le_of_ble_eq_true (Eq.refl true) | decide))))); (conv => whnf)
      refine AWP.block ?_
      refine AWP.seq ?_
      refine nd (by decide) _ _ _ ?_
      (repeat (first | ((conv => whnf); (with_reducible refine And.intro ?_ ?_); (focus (first | exact Eq.refl _ | exact trivial | exact Int.natCast_nonneg _ | assumption | exact Nat.le_of_ble_eq_true (Eq.refl true) | decide))))); (conv => whnf)
      refine nd (by decide) _ _ _ ?_
      (conv => whnf)
      refine branch_hF hF (fun hc63 hF => ?_) (fun hc63 hF => ?_)
      · refine AWP.seq ?_
        refine nd (by decide) _ _ _ ?_
        (repeat (first | ((conv => whnf); (with_reducible refine And.intro ?_ ?_); (focus (first | exact Eq.refl _ | exact trivial | exact Int.natCast_nonneg _ | assumption | exact Nat.le_of_ble_eq_true (Eq.refl true) | decide))))); (conv => whnf)
        obtain rfl := some_eq hF
        refine nd (by decide) _ _ _ ?_
        (repeat (first | ((conv => whnf); (with_reducible refine And.intro ?_ ?_); (focus (first | exact Eq.refl _ | exact trivial | exact Int.natCast_nonneg _ | assumption | exact Nat.le_of_ble_eq_true (Eq.refl true) | decide))))); (conv => whnf)
        exact Exists.intro (rn []) (WS.mk (wt_cons (wd_agg (wl_cons (WE.refl _) (wl_cons (WE.refl _) (wl_cons (WE.refl _) (wl_cons WE.nil (wl_cons (WE.refl _) (wl_cons WE.nil wl_nil))))))) wt_nil) (wb_cons rfl (wc_c (WE.refl _) (wc_c (WE.refl _) (wc_c (WE.refl _) wc_nil))) wb_nil))
      · refine AWP.seq ?_
        refine nd (by decide) _ _ _ ?_
        (repeat (first | ((conv => whnf); (with_reducible refine And.intro ?_ ?_); (focus (first | exact Eq.refl _ | exact trivial | exact Int.natCast_nonneg _ | assumption | exact Nat.le_of_ble_eq_true (Eq.refl true) | decide))))); (conv => whnf)
        refine nd (by decide) _ _ _ ?_
        (conv => whnf)
        refine branch_hF hF (fun hc64 hF => ?_) (fun hc64 hF => ?_)
        · refine AWP.seq ?_
          refine nd (by decide) _ _ _ ?_
          (repeat (first | ((conv => whnf); (with_reducible refine And.intro ?_ ?_); (focus (first | exact Eq.refl _ | exact trivial | exact Int.natCast_nonneg _ | assumption | exact Nat.le_of_ble_eq_true (Eq.refl true) | decide))))); (conv => whnf)
          obtain rfl := some_eq hF
          refine nd (by decide) _ _ _ ?_
          (repeat (first | ((conv => whnf); (with_reducible refine And.intro ?_ ?_); (focus (first | exact Eq.refl _ | exact trivial | exact Int.natCast_nonneg _ | assumption | exact Nat.le_of_ble_eq_true (Eq.refl true) | decide))))); (conv => whnf)
          exact Exists.intro (rn []) (WS.mk (wt_cons (wd_agg (wl_cons (WE.refl _) (wl_cons (WE.refl _) (wl_cons (WE.refl _) (wl_cons WE.nil (wl_cons (WE.refl _) (wl_cons WE.nil wl_nil))))))) wt_nil) (wb_cons rfl (wc_c (WE.refl _) (wc_c (WE.refl _) (wc_c (WE.refl _) wc_nil))) wb_nil))
        · refine AWP.seq ?_
          refine nd (by decide) _ _ _ ?_
          (repeat (first | ((conv => whnf); (with_reducible refine And.intro ?_ ?_); (focus (first | exact Eq.refl _ | exact trivial | exact Int.natCast_nonneg _ | assumption | exact Nat.le_of_ble_eq_true (Eq.refl true) | decide))))); (conv => whnf)
          refine nd (by decide) _ _ _ ?_
          (conv => whnf)
          refine branch_hF hF (fun hc65 hF => ?_) (fun hc65 hF => ?_)
          · refine AWP.seq ?_
            obtain ⟨r66, hr66, hF⟩ := bind_some hF
            refine nd (by decide) _ _ _ ?_
            (repeat (first | ((conv => whnf); (with_reducible refine And.intro ?_ ?_); (focus (first | exact Eq.refl _ | exact trivial | exact Int.natCast_nonneg _ | assumption | exact Nat.le_of_ble_eq_true (Eq.refl true) | decide))))); (conv => whnf)
            refine Exists.intro [] ?_
            (repeat (first | ((conv => whnf); (with_reducible refine And.intro ?_ ?_); (focus (first | exact Eq.refl _ | exact trivial | exact Int.natCast_nonneg _ | assumption | exact Nat.le_of_ble_eq_true (Eq.refl true) | decide))))); (conv => whnf)
            refine CallsX.mono (CallsX.weak (rn []) (values_All_ok _ hr66) rfl (WS.mk wt_nil wb_nil)) ?_
            rintro d b ⟨rfl, rfl⟩
            (repeat (first | ((conv => whnf); (with_reducible refine And.intro ?_ ?_); (focus (first | exact Eq.refl _ | exact trivial | exact Int.natCast_nonneg _ | assumption | exact Nat.le_of_ble_eq_true (Eq.refl true) | decide))))); (conv => whnf)
            (repeat (first | ((conv => whnf); (with_reducible refine And.intro ?_ ?_); (focus (first | exact Eq.refl _ | exact trivial | exact Int.natCast_nonneg _ | assumption | exact Nat.le_of_ble_eq_true (Eq.refl true) | decide))))); (conv => whnf)
            obtain rfl := some_eq hF
            refine nd (by decide) _ _ _ ?_
            (repeat (first | ((conv => whnf); (with_reducible refine And.intro ?_ ?_); (focus (first | exact Eq.refl _ | exact trivial | exact Int.natCast_nonneg _ | assumption | exact Nat.le_of_ble_eq_true (Eq.refl true) | decide))))); (conv => whnf)
            exact Exists.intro (rn []) (WS.mk (wt_cons (wd_agg (wl_cons (WE.refl _) (wl_cons (WE.refl _) (wl_cons (WE.refl _) (wl_cons WE.nil (wl_cons (WE.refl _) (wl_cons (WE.refl _) wl_nil))))))) wt_nil) (wb_cons rfl (wc_c (WE.refl _) (wc_c (WE.refl _) (wc_c (WE.refl _) wc_nil))) wb_nil))
          · refine AWP.seq ?_
            refine nd (by decide) _ _ _ ?_
            (repeat (first | ((conv => whnf); (with_reducible refine And.intro ?_ ?_); (focus (first | exact Eq.refl _ | exact trivial | exact Int.natCast_nonneg _ | assumption | exact Nat.le_of_ble_eq_true (Eq.refl true) | decide))))); (conv => whnf)
            refine nd (by decide) _ _ _ ?_
            (conv => whnf)
            refine branch_hF hF (fun hc67 hF => ?_) (fun hc67 hF => ?_)
            · refine AWP.seq ?_
              obtain ⟨r68, hr68, hF⟩ := bind_some hF
              refine nd (by decide) _ _ _ ?_
              (repeat (first | ((conv => whnf); (with_reducible refine And.intro ?_ ?_); (focus (first | exact Eq.refl _ | exact trivial | exact Int.natCast_nonneg _ | assumption | exact Nat.le_of_ble_eq_true (Eq.refl true) | decide))))); (conv => whnf)
              refine Exists.intro [] ?_
              (repeat (first | ((conv => whnf); (with_reducible refine And.intro ?_ ?_); (focus (first | exact Eq.refl _ | exact trivial | exact Int.natCast_nonneg _ | assumption | exact Nat.le_of_ble_eq_true (Eq.refl true) | decide))))); (conv => whnf)
              refine CallsX.mono (CallsX.weak (rn []) (values_reader_set_ok r1.2 _ hr68) rfl (WS.mk (wt_cons wd_ptr wt_nil) (wb_cons rfl (wc_c (WE.refl _) (wc_c (WE.refl _) (wc_c (WE.refl _) wc_nil))) wb_nil))) ?_
              rintro d b ⟨rfl, rfl⟩
              (repeat (first | ((conv => whnf); (with_reducible refine And.intro ?_ ?_); (focus (first | exact Eq.refl _ | exact trivial | exact Int.natCast_nonneg _ | assumption | exact Nat.le_of_ble_eq_true (Eq.refl true) | decide))))); (conv => whnf)
              (repeat (first | ((conv => whnf); (with_reducible refine And.intro ?_ ?_); (focus (first | exact Eq.refl _ | exact trivial | exact Int.natCast_nonneg _ | assumption | exact Nat.le_of_ble_eq_true (Eq.refl true) | decide))))); (conv => whnf)
              obtain rfl := some_eq hF
              refine nd (by decide) _ _ _ ?_
              (repeat (first | ((conv => whnf); (with_reducible refine And.intro ?_ ?_); (focus (first | exact Eq.refl _ | exact trivial | exact Int.natCast_nonneg _ | assumption | exact Nat.le_of_ble_eq_true (Eq.refl true) | decide))))); (conv => whnf)
              exact Exists.intro (rn []) (WS.mk (wt_cons (wd_agg (wl_cons (WE.refl _) (wl_cons (WE.refl _) (wl_cons (WE.refl _) (wl_cons WE.nil (wl_cons (WE.refl _) (wl_cons (WE.refl _) wl_nil))))))) wt_nil) (wb_cons rfl (wc_c (WE.refl _) (wc_c (WE.refl _) (wc_c (WE.refl _) wc_nil))) wb_nil))
            · refine AWP.seq ?_
              refine nd (by decide) _ _ _ ?_
              (repeat (first | ((conv => whnf); (with_reducible refine And.intro ?_ ?_); (focus (first | exact Eq.refl _ | exact trivial | exact Int.natCast_nonneg _ | assumption | exact Nat.le_of_ble_eq_true (Eq.refl true) | decide))))); (conv => whnf)
              refine nd (by decide) _ _ _ ?_
              (conv => whnf)
              refine branch_hF hF (fun hc69 hF => ?_) (fun hc69 hF => ?_)
              · refine AWP.seq ?_
                obtain ⟨r70, hr70, hF⟩ := bind_some hF
                refine nd (by decide) _ _ _ ?_
                (repeat (first | ((conv => whnf); (with_reducible refine And.intro ?_ ?_); (focus (first | exact Eq.refl _ | exact trivial | exact Int.natCast_nonneg _ | assumption | exact Nat.le_of_ble_eq_true (Eq.refl true) | decide))))); (conv => whnf)
                refine Exists.intro [] ?_
                (repeat (first | ((conv => whnf); (with_reducible refine And.intro ?_ ?_); (focus (first | exact Eq.refl _ | exact trivial | exact Int.natCast_nonneg _ | assumption | exact Nat.le_of_ble_eq_true (Eq.refl true) | decide))))); (conv => whnf)
                refine CallsX.mono (CallsX.weak (rn []) (values_reader_next_ok r1.2 _ hr70) rfl (WS.mk (wt_cons wd_ptr wt_nil) (wb_cons rfl (wc_c (WE.refl _) (wc_c (WE.refl _) (wc_c (WE.refl _) wc_nil))) wb_nil))) ?_
                rintro d b ⟨rfl, rfl⟩
                (repeat (first | ((conv => whnf); (with_reducible refine And.intro ?_ ?_); (focus (first | exact Eq.refl _ | exact trivial | exact Int.natCast_nonneg _ | assumption | exact Nat.le_of_ble_eq_true (Eq.refl true) | decide))))); (conv => whnf)
                (repeat (first | ((conv => whnf); (with_reducible refine And.intro ?_ ?_); (focus (first | exact Eq.refl _ | exact trivial | exact Int.natCast_nonneg _ | assumption | exact Nat.le_of_ble_eq_true (Eq.refl true) | decide))))); (conv => whnf)
                refine AWP.seq ?_
                refine AWP.block ?_
                refine AWP.loop ?_
                refine AWL.weak (rn []) ?_ (ih_values_reader_value_l1 a1_ r70 ([]) r70.2 _ hF)
                exact (WS.mk (wt_cons wd_ptr (wt_cons (wd_c (WE.refl _)) (wt_cons wd_ptr (wt_cons wd_ptr wt_nil)))) (wb_cons rfl (wc_c (WE.refl _) (wc_c (WE.refl _) (wc_c (WE.refl _) (wc_c (WE.refl _) (wc_c (WE.refl _) (wc_c (WE.refl _) wc_nil)))))) (wb_cons rfl (wc_c (WE.refl _) (wc_c (WE.refl _) (wc_c (WE.refl _) (wc_nilown (wc_c (WE.refl _) (wc_c (WE.refl _) wc_nil)))))) (wb_cons rfl (wc_c (WE.refl _) (wc_c (WE.refl _) (wc_c (WE.refl _) wc_nil))) wb_nil))))
              · refine nd (by decide) _ _ _ ?_
                (conv => whnf)
                refine AWP.seq ?_
                refine AWP.seq ?_
                obtain ⟨y126, hy1260, hy126, hF⟩ := bt_some hF
                refine nd (by decide) _ _ _ ?_
                (repeat (first | ((conv => whnf); (with_reducible refine And.intro ?_ ?_); (focus (first | exact Eq.refl _ | exact trivial | exact Int.natCast_nonneg _ | assumption | exact Nat.le_of_ble_eq_true (Eq.refl true) | decide))) | ((conv => whnf); rw [hy126]))); (conv => whnf)
                (repeat (first | ((conv => whnf); (with_reducible refine And.intro ?_ ?_); (focus (first | exact Eq.refl _ | exact trivial | exact Int.natCast_nonneg _ | assumption | exact Nat.le_of_ble_eq_true (Eq.refl true) | decide))))); (conv => whnf)
                refine nd (by decide) _ _ _ ?_
                (conv => whnf)
                refine branch_hF hF (fun hc127 hF => ?_) (fun hc127 hF => ?_)
                · refine AWP.seq ?_
                  obtain ⟨z128, hz1281, hz1282, hz1283, hz128, hF⟩ := slS_some hF
                  obtain ⟨r129, hr129, hF⟩ := bind_some hF
                  refine nd (by decide) _ _ _ ?_
                  (repeat (first | ((conv => whnf); (with_reducible refine And.intro ?_ ?_); (focus (first | exact Eq.refl _ | exact trivial | exact Int.natCast_nonneg _ | assumption | exact Nat.le_of_ble_eq_true (Eq.refl true) | decide))))); (conv => whnf)
                  rw [← hz128]
                  (repeat (first | ((conv => whnf); (with_reducible refine And.intro ?_ ?_); (focus (first | exact Eq.refl _ | exact trivial | exact Int.natCast_nonneg _ | assumption | exact Nat.le_of_ble_eq_true (Eq.refl true) | decide))))); (conv => whnf)
                  refine Exists.intro [] ?_
                  (repeat (first | ((conv => whnf); (with_reducible refine And.intro ?_ ?_); (focus (first | exact Eq.refl _ | exact trivial | exact Int.natCast_nonneg _ | assumption | exact Nat.le_of_ble_eq_true (Eq.refl true) | decide))))); (conv => whnf)
                  refine CallsX.mono (CallsX.weak (rn []) (values_reader_number_ok r1.2 z128 _ hr129) rfl (WS.mk (wt_cons wd_ptr (wt_cons (wd_c (WE.refl _)) wt_nil)) (wb_cons rfl (wc_c (WE.refl _) (wc_c (WE.refl _) (wc_c (WE.refl _) wc_nil))) wb_nil))) ?_
                  rintro d b ⟨rfl, rfl⟩
                  (repeat (first | ((conv => whnf); (with_reducible refine And.intro ?_ ?_); (focus (first | exact Eq.refl _ | exact trivial | exact Int.natCast_nonneg _ | assumption | exact Nat.le_of_ble_eq_true (Eq.refl true) | decide))))); (conv => whnf)
                  (repeat (first | ((conv => whnf); (with_reducible refine And.intro ?_ ?_); (focus (first | exact Eq.refl _ | exact trivial | exact Int.natCast_nonneg _ | assumption | exact Nat.le_of_ble_eq_true (Eq.refl true) | decide))))); (conv => whnf)
                  obtain rfl := some_eq hF
                  refine nd (by decide) _ _ _ ?_
                  (repeat (first | ((conv => whnf); (with_reducible refine And.intro ?_ ?_); (focus (first | exact Eq.refl _ | exact trivial | exact Int.natCast_nonneg _ | assumption | exact Nat.le_of_ble_eq_true (Eq.refl true) | decide))))); (conv => whnf)
                  exact Exists.intro (rn []) (WS.mk (wt_cons (wd_agg (wl_cons (WE.refl _) (wl_cons (WE.refl _) (wl_cons (WE.refl _) (wl_cons WE.nil (wl_cons (WE.refl _) (wl_cons WE.nil wl_nil))))))) wt_nil) (wb_cons rfl (wc_c (WE.refl _) (wc_c (WE.refl _) (wc_c (WE.refl _) wc_nil))) wb_nil))
                · refine nd (by decide) _ _ _ ?_
                  (conv => whnf)
                  refine AWP.seq ?_
                  refine AWP.seq ?_
                  obtain ⟨y137, hy1370, hy137, hF⟩ := bt_some hF
                  obtain ⟨c141, hc141, hF⟩ := bind_some hF
                  refine AWP.cutN (fun T => ∃ r, WS r T ⟨[(0, .ptr 1000 0), (4, .ptr 4 0), (5, .c none (.v (.string r1.1))), (108, .c none (.v (.bool c141)))], [(4, [(none, .v (.int .i64 0)), (none, .v (.string (ByteArray.mk #[]))), (none, .v (.int .i64 0)), (none, .nils), (none, .v (.bool false)), (none, .nils)]), (1000, [(none, .sl (r1.2.fwords.map c_S)), (none, .v (.int .i64 r1.2.fat)), (none, .v (.bool r1.2.fbad))])]⟩) ?_ (fun T hw => ?_)
                  · refine nd (by decide) _ _ _ ?_
                    (repeat (first | ((conv => whnf); (with_reducible refine And.intro ?_ ?_); (focus (first | exact Eq.refl _ | exact trivial | exact Int.natCast_nonneg _ | assumption | exact Nat.le_of_ble_eq_true (Eq.refl true) | decide))) | ((conv => whnf); rw [hy137]))); (conv => whnf)
                    (repeat (first | ((conv => whnf); (with_reducible refine And.intro ?_ ?_); (focus (first | exact Eq.refl _ | exact trivial | exact Int.natCast_nonneg _ | assumption | exact Nat.le_of_ble_eq_true (Eq.refl true) | decide))))); (conv => whnf)
                    refine branchG_intro false (fun hc142 => ?_) (fun hc142 => ?_)
                    · have hc141 := if_then (by first | assumption | exact Eq.refl _ | simp only [hc142, Bool.and_true, Bool.true_and, Bool.and_false, Bool.false_and, Bool.or_true, Bool.true_or, Bool.or_false, Bool.false_or, Bool.not_true, Bool.not_false, cond_true, cond_false, List.length_map]) hc141
                      (conv => whnf)
                      obtain rfl := some_eq hc141
                      (repeat (first | ((conv => whnf); (with_reducible refine And.intro ?_ ?_); (focus (first | exact Eq.refl _ | exact trivial | exact Int.natCast_nonneg _ | assumption | exact Nat.le_of_ble_eq_true (Eq.refl true) | decide))))); (conv => whnf)
                      exact Exists.intro (rn []) (WS.mk (wt_cons wd_ptr (wt_cons wd_ptr (wt_cons (wd_c (WE.refl _)) (wt_cons (wd_c (we_b (by first | exact Eq.refl _ | simp only [hc142, Bool.and_true, Bool.true_and, Bool.and_false, Bool.false_and, Bool.or_true, Bool.true_or, Bool.or_false, Bool.false_or, Bool.not_true, Bool.not_false, cond_true, cond_false, List.length_map]))) wt_nil)))) (wb_cons rfl (wc_c (WE.refl _) (wc_c (WE.refl _) (wc_c (WE.refl _) (wc_c (WE.refl _) (wc_c (WE.refl _) (wc_c (WE.refl _) wc_nil)))))) (wb_cons rfl (wc_c (WE.refl _) (wc_c (WE.refl _) (wc_c (WE.refl _) wc_nil))) wb_nil)))
                    · have hc141 := if_else (by first | assumption | exact Eq.refl _ | simp only [hc142, Bool.and_true, Bool.true_and, Bool.and_false, Bool.false_and, Bool.or_true, Bool.true_or, Bool.or_false, Bool.false_or, Bool.not_true, Bool.not_false, cond_true, cond_false, List.length_map]) hc141
                      obtain ⟨y138, hy1380, hy138, hc141⟩ := bt_some hc141
                      obtain ⟨c140, hc140, hc141⟩ := bind_some hc141
                      (conv => whnf)
                      (repeat (first | ((conv => whnf); (with_reducible refine And.intro ?_ ?_); (focus (first | exact Eq.refl _ | exact trivial | exact Int.natCast_nonneg _ | assumption | exact Nat.le_of_ble_eq_true (Eq.refl true) | decide))) | ((conv => whnf); rw [hy138]))); (conv => whnf)
                      (repeat (first | ((conv => whnf); (with_reducible refine And.intro ?_ ?_); (focus (first | exact Eq.refl _ | exact trivial | exact Int.natCast_nonneg _ | assumption | exact Nat.le_of_ble_eq_true (Eq.refl true) | decide))))); (conv => whnf)
                      refine branchG_intro true (fun hc143 => ?_) (fun hc143 => ?_)
                      · have hc140 := if_then (by first | assumption | exact Eq.refl _ | simp only [hc142, hc143, Bool.and_true, Bool.true_and, Bool.and_false, Bool.false_and, Bool.or_true, Bool.true_or, Bool.or_false, Bool.false_or, Bool.not_true, Bool.not_false, cond_true, cond_false, List.length_map]) hc140
                        obtain ⟨y139, hy1390, hy139, hc140⟩ := bt_some hc140
                        (conv => whnf)
                        (repeat (first | ((conv => whnf); (with_reducible refine And.intro ?_ ?_); (focus (first | exact Eq.refl _ | exact trivial | exact Int.natCast_nonneg _ | assumption | exact Nat.le_of_ble_eq_true (Eq.refl true) | decide))) | ((conv => whnf); rw [hy139]))); (conv => whnf)
                        obtain rfl := some_eq hc140
                        obtain rfl := some_eq hc141
                        (repeat (first | ((conv => whnf); (with_reducible refine And.intro ?_ ?_); (focus (first | exact Eq.refl _ | exact trivial | exact Int.natCast_nonneg _ | assumption | exact Nat.le_of_ble_eq_true (Eq.refl true) | decide))))); (conv => whnf)
                        exact Exists.intro (rn []) (WS.mk (wt_cons wd_ptr (wt_cons wd_ptr (wt_cons (wd_c (WE.refl _)) (wt_cons (wd_c (we_b (by first | exact Eq.refl _ | simp only [hc142, hc143, Bool.and_true, Bool.true_and, Bool.and_false, Bool.false_and, Bool.or_true, Bool.true_or, Bool.or_false, Bool.false_or, Bool.not_true, Bool.not_false, cond_true, cond_false, List.length_map]))) wt_nil)))) (wb_cons rfl (wc_c (WE.refl _) (wc_c (WE.refl _) (wc_c (WE.refl _) (wc_c (WE.refl _) (wc_c (WE.refl _) (wc_c (WE.refl _) wc_nil)))))) (wb_cons rfl (wc_c (WE.refl _) (wc_c (WE.refl _) (wc_c (WE.refl _) wc_nil))) wb_nil)))
                      · have hc140 := if_else (by first | assumption | exact Eq.refl _ | simp only [hc142, hc143, Bool.and_true, Bool.true_and, Bool.and_false, Bool.false_and, Bool.or_true, Bool.true_or, Bool.or_false, Bool.false_or, Bool.not_true, Bool.not_false, cond_true, cond_false, List.length_map]) hc140
                        (conv => whnf)
                        obtain rfl := some_eq hc140
                        obtain rfl := some_eq hc141
                        (repeat (first | ((conv => whnf); (with_reducible refine And.intro ?_ ?_); (focus (first | exact Eq.refl _ | exact trivial | exact Int.natCast_nonneg _ | assumption | exact Nat.le_of_ble_eq_true (Eq.refl true) | decide))))); (conv => whnf)
                        exact Exists.intro (rn []) (WS.mk (wt_cons wd_ptr (wt_cons wd_ptr (wt_cons (wd_c (WE.refl _)) (wt_cons (wd_c (we_b (by first | exact Eq.refl _ | simp only [hc142, hc143, Bool.and_true, Bool.true_and, Bool.and_false, Bool.false_and, Bool.or_true, Bool.true_or, Bool.or_false, Bool.false_or, Bool.not_true, Bool.not_false, cond_true, cond_false, List.length_map]))) wt_nil)))) (wb_cons rfl (wc_c (WE.refl _) (wc_c (WE.refl _) (wc_c (WE.refl _) (wc_c (WE.refl _) (wc_c (WE.refl _) (wc_c (WE.refl _) wc_nil)))))) (wb_cons rfl (wc_c (WE.refl _) (wc_c (WE.refl _) (wc_c (WE.refl _) wc_nil))) wb_nil)))
                  obtain ⟨r0, hw⟩ := hw
                  (conv => whnf)
                  refine AWP.weak r0 hw ?_
                  refine nd (by decide) _ _ _ ?_
                  (conv => whnf)
                  refine branch_hF hF (fun hc144 hF => ?_) (fun hc144 hF => ?_)
                  · refine AWP.seq ?_
                    obtain ⟨r145, hr145, hF⟩ := bind_some hF
                    refine nd (by decide) _ _ _ ?_
                    (repeat (first | ((conv => whnf); (with_reducible refine And.intro ?_ ?_); (focus (first | exact Eq.refl _ | exact trivial | exact Int.natCast_nonneg _ | assumption | exact Nat.le_of_ble_eq_true (Eq.refl true) | decide))))); (conv => whnf)
                    refine Exists.intro [] ?_
                    (repeat (first | ((conv => whnf); (with_reducible refine And.intro ?_ ?_); (focus (first | exact Eq.refl _ | exact trivial | exact Int.natCast_nonneg _ | assumption | exact Nat.le_of_ble_eq_true (Eq.refl true) | decide))))); (conv => whnf)
                    refine CallsX.mono (CallsX.weak (rn []) (values_reader_number_ok r1.2 r1.1 _ hr145) rfl (WS.mk (wt_cons wd_ptr (wt_cons (wd_c (WE.refl _)) wt_nil)) (wb_cons rfl (wc_c (WE.refl _) (wc_c (WE.refl _) (wc_c (WE.refl _) wc_nil))) wb_nil))) ?_
                    rintro d b ⟨rfl, rfl⟩
                    (repeat (first | ((conv => whnf); (with_reducible refine And.intro ?_ ?_); (focus (first | exact Eq.refl _ | exact trivial | exact Int.natCast_nonneg _ | assumption | exact Nat.le_of_ble_eq_true (Eq.refl true) | decide))))); (conv => whnf)
                    (repeat (first | ((conv => whnf); (with_reducible refine And.intro ?_ ?_); (focus (first | exact Eq.refl _ | exact trivial | exact Int.natCast_nonneg _ | assumption | exact Nat.le_of_ble_eq_true (Eq.refl true) | decide))))); (conv => whnf)
                    obtain rfl := some_eq hF
                    refine nd (by decide) _ _ _ ?_
                    (repeat (first | ((conv => whnf); (with_reducible refine And.intro ?_ ?_); (focus (first | exact Eq.refl _ | exact trivial | exact Int.natCast_nonneg _ | assumption | exact Nat.le_of_ble_eq_true (Eq.refl true) | decide))))); (conv => whnf)
                    exact Exists.intro (rn []) (WS.mk (wt_cons (wd_agg (wl_cons (WE.refl _) (wl_cons (WE.refl _) (wl_cons (WE.refl _) (wl_cons WE.nil (wl_cons (WE.refl _) (wl_cons WE.nil wl_nil))))))) wt_nil) (wb_cons rfl (wc_c (WE.refl _) (wc_c (WE.refl _) (wc_c (WE.refl _) wc_nil))) wb_nil))
                  · refine nd (by decide) _ _ _ ?_
                    (conv => whnf)
                    refine AWP.seq ?_
                    refine nd (by decide) _ _ _ ?_
                    (repeat (first | ((conv => whnf); (with_reducible refine And.intro ?_ ?_); (focus (first | exact Eq.refl _ | exact trivial | exact Int.natCast_nonneg _ | assumption | exact Nat.le_of_ble_eq_true (Eq.refl true) | decide))))); (conv => whnf)
                    obtain rfl := some_eq hF
                    refine nd (by decide) _ _ _ ?_
                    (repeat (first | ((conv => whnf); (with_reducible refine And.intro ?_ ?_); (focus (first | exact Eq.refl _ | exact trivial | exact Int.natCast_nonneg _ | assumption | exact Nat.le_of_ble_eq_true (Eq.refl true) | decide))))); (conv => whnf)
                    exact Exists.intro (rn []) (WS.mk (wt_cons (wd_agg (wl_cons (WE.refl _) (wl_cons (WE.refl _) (wl_cons (WE.refl _) (wl_cons WE.nil (wl_cons (WE.refl _) (wl_cons WE.nil wl_nil))))))) wt_nil) (wb_cons rfl (wc_c (WE.refl _) (wc_c (WE.refl _) (wc_c (WE.refl _) wc_nil))) wb_nil))
  · intro values_reader_value' values_reader_value_l1' ih_values_reader_value ih_values_reader_value_l1 a1_ r70 c_6_3 c_1000_0_s r hF
    unfold values_reader_value_l1.M
    refine AWL.step ?_
    refine AWP.seq ?_
    refine AWP.seq ?_
    obtain ⟨c115, hc115, hF⟩ := bind_some hF
    refine AWP.cutN (fun T => ∃ r, WS r T ⟨[(0, .ptr 1000 0), (1, .c none (.v (.int .i64 a1_))), (4, .ptr 4 0), (6, .ptr 6 0), (75, .c none (.v (.bool c115)))], [(4, [(none, .v (.int .i64 0)), (none, .v (.string (ByteArray.mk #[]))), (none, .v (.int .i64 0)), (none, .nils), (none, .v (.bool false)), (none, .nils)]), (6, [(none, .v (.int .i64 3)), (none, .v (.string r70.1)), (none, .v (.int .i64 0)), ((some (4303, 28)), .sl (c_6_3.map TValue.cells)), (none, .v (.bool false)), (none, .nils)]), (1000, [(none, .sl (c_1000_0_s.fwords.map c_S)), (none, .v (.int .i64 c_1000_0_s.fat)), (none, .v (.bool c_1000_0_s.fbad))])]⟩) ?_ (fun T hw => ?_)
    · refine nd (by decide) _ _ _ ?_
      refine Exists.intro 26 (Exists.intro [[], [], [], [], [], [], [], [], [], [], [], [], [], [], [], [], [], [], [], [], [], [], [], [], [], []] (Exists.intro [([46, 47, 48, 49, 50, 51, 52, 53, 54, 55, 56, 57, 58, 59, 60, 61, 62, 63, 64, 65, 66, 67, 68, 69, 70, 71], [], []), ([47, 48, 49, 50, 51, 52, 53, 54, 55, 56, 57, 58, 59, 60, 61, 62, 63, 64, 65, 66, 67, 68, 69, 70, 71], [], []), ([48, 49, 50, 51, 52, 53, 54, 55, 56, 57, 58, 59, 60, 61, 62, 63, 64, 65, 66, 67, 68, 69, 70, 71], [], []), ([49, 50, 51, 52, 53, 54, 55, 56, 57, 58, 59, 60, 61, 62, 63, 64, 65, 66, 67, 68, 69, 70, 71], [], []), ([50, 51, 52, 53, 54, 55, 56, 57, 58, 59, 60, 61, 62, 63, 64, 65, 66, 67, 68, 69, 70, 71], [], []), ([51, 52, 53, 54, 55, 56, 57, 58, 59, 60, 61, 62, 63, 64, 65, 66, 67, 68, 69, 70, 71], [], []), ([52, 53, 54, 55, 56, 57, 58, 59, 60, 61, 62, 63, 64, 65, 66, 67, 68, 69, 70, 71], [], []), ([53, 54, 55, 56, 57, 58, 59, 60, 61, 62, 63, 64, 65, 66, 67, 68, 69, 70, 71], [], []), ([54, 55, 56, 57, 58, 59, 60, 61, 62, 63, 64, 65, 66, 67, 68, 69, 70, 71], [], []), ([55, 56, 57, 58, 59, 60, 61, 62, 63, 64, 65, 66, 67, 68, 69, 70, 71], [], []), ([52, 53, 54, 55, 56, 57, 58, 59, 60, 61, 62, 63, 64, 65, 66, 67, 68, 69, 70, 71], [], []), ([52, 53, 54, 55, 57, 58, 59, 60, 61, 62, 63, 64, 65, 66, 67, 68, 69, 70, 71], [], []), ([52, 53, 54, 55, 58, 59, 60, 61, 62, 63, 64, 65, 66, 67, 68, 69, 70, 71], [], []), ([52, 53, 54, 55, 59, 60, 61, 62, 63, 64, 65, 66, 67, 68, 69, 70, 71], [], []), ([52, 53, 54, 55, 60, 61, 62, 63, 64, 65, 66, 67, 68, 69, 70, 71], [], []), ([61, 62, 63, 64, 65, 66, 67, 68, 69, 70, 71], [], []), ([62, 63, 64, 65, 66, 67, 68, 69, 70, 71], [], []), ([63, 64, 65, 66, 67, 68, 69, 70, 71], [], []), ([64, 65, 66, 67, 68, 69, 70, 71], [], []), ([65, 66, 67, 68, 69, 70, 71], [], []), ([66, 67, 68, 69, 70, 71], [], []), ([67, 68, 69, 70, 71], [], []), ([64, 65, 66, 67, 68, 69, 70, 71], [], []), ([64, 65, 66, 67, 69, 70, 71], [], []), ([64, 65, 66, 67, 70, 71], [], []), ([64, 65, 66, 67, 71], [], [])] (Exists.intro [46, 47, 48, 49, 50, 51, 52, 53, 54, 55, 56, 57, 58, 59, 60, 61, 62, 63, 64, 65, 66, 67, 68, 69, 70, 71] (And.intro (by decide +kernel) ?_))))
      ((repeat (first | ((conv => whnf); (with_reducible refine And.intro ?_ ?_); (focus (first | exact Eq.refl _ | exact trivial | exact Int.natCast_nonneg _ | assumption | exact Nat.le_of_ble_eq_true (Eq.refl true) | decide))))); (conv => whnf); apply Exists.intro; apply Exists.intro; apply And.intro; (focus (((repeat (first | ((conv => whnf); (with_reducible refine And.intro ?_ ?_); (focus (first | exact Eq.refl _ | exact trivial | exact Int.natCast_nonneg _ | assumption | exact Nat.le_of_ble_eq_true (Eq.refl true) | decide))))); (conv => whnf)) <;> (exact rfl))); apply And.intro; (focus exact rfl); (conv => whnf))
      ((repeat (first | ((conv => whnf); (with_reducible refine And.intro ?_ ?_); (focus (first | exact Eq.refl _ | exact trivial | exact Int.natCast_nonneg _ | assumption | exact Nat.le_of_ble_eq_true (Eq.refl true) | decide))))); (conv => whnf); apply Exists.intro; apply Exists.intro; apply And.intro; (focus (((repeat (first | ((conv => whnf); (with_reducible refine And.intro ?_ ?_); (focus (first | exact Eq.refl _ | exact trivial | exact Int.natCast_nonneg _ | assumption | exact Nat.le_of_ble_eq_true (Eq.refl true) | decide))))); (conv => whnf)) <;> (exact rfl))); apply And.intro; (focus exact rfl); (conv => whnf))
      ((repeat (first | ((conv => whnf); (with_reducible refine And.intro ?_ ?_); (focus (first | exact Eq.refl _ | exact trivial | exact Int.natCast_nonneg _ | assumption | exact Nat.le_of_ble_eq_true (Eq.refl true) | decide))))); (conv => whnf); apply Exists.intro; apply Exists.intro; apply And.intro; (focus (((repeat (first | ((conv => whnf); (with_reducible refine And.intro ?_ ?_); (focus (first | exact Eq.refl _ | exact trivial | exact Int.natCast_nonneg _ | assumption | exact Nat.le_of_ble_eq_true (Eq.refl true) | decide))))); (conv => whnf)) <;> (exact rfl))); apply And.intro; (focus exact rfl); (conv => whnf))
      ((repeat (first | ((conv => whnf); (with_reducible refine And.intro ?_ ?_); (focus (first | exact Eq.refl _ | exact trivial | exact Int.natCast_nonneg _ | assumption | exact Nat.le_of_ble_eq_true (Eq.refl true) | decide))))); (conv => whnf); apply Exists.intro; apply Exists.intro; apply And.intro; (focus (((repeat (first | ((conv => whnf); (with_reducible refine And.intro ?_ ?_); (focus (first | exact Eq.refl _ | exact trivial | exact Int.natCast_nonneg _ | assumption | exact Nat.le_of_ble_eq_true (Eq.refl true) | decide))))); (conv => whnf)) <;> (exact rfl))); apply And.intro; (focus exact rfl); (conv => whnf))
      ((repeat (first | ((conv => whnf); (with_reducible refine And.intro ?_ ?_); (focus (first | exact Eq.refl _ | exact trivial | exact Int.natCast_nonneg _ | assumption | exact Nat.le_of_ble_eq_true (Eq.refl true) | decide))))); (conv => whnf); apply Exists.intro; apply Exists.intro; apply And.intro; (focus (((repeat (first | ((conv => whnf); (with_reducible refine And.intro ?_ ?_); (focus (first | exact Eq.refl _ | exact trivial | exact Int.natCast_nonneg _ | assumption | exact Nat.le_of_ble_eq_true (Eq.refl true) | decide))))); (conv => whnf)) <;> (exact rfl))); apply And.intro; (focus exact rfl); (conv => whnf))
      ((repeat (first | ((conv => whnf); (with_reducible refine And.intro ?_ ?_); (focus (first | exact Eq.refl _ | exact trivial | exact Int.natCast_nonneg _ | assumption | exact Nat.le_of_ble_eq_true (Eq.refl true) | decide))))); (conv => whnf); apply Exists.intro; apply Exists.intro; apply And.intro; (focus (((repeat (first | ((conv => whnf); (with_reducible refine And.intro ?_ ?_); (focus (first | exact Eq.refl _ | exact trivial | exact Int.natCast_nonneg _ | assumption | exact Nat.le_of_ble_eq_true (Eq.refl true) | decide))))); (conv => whnf)) <;> (exact rfl))); apply And.intro; (focus exact rfl); (conv => whnf))
      (repeat (first | ((conv => whnf); (with_reducible refine And.intro ?_ ?_); (focus (first | exact Eq.refl _ | exact trivial | exact Int.natCast_nonneg _ | assumption | exact Nat.le_of_ble_eq_true (Eq.refl true) | decide))))); (conv => whnf)
      refine branchG_intro true (fun hc116 => ?_) (fun hc116 => ?_)
      · (conv => whnf)
        ((repeat (first | ((conv => whnf); (with_reducible refine And.intro ?_ ?_); (focus (first | exact Eq.refl _ | exact trivial | exact Int.natCast_nonneg _ | assumption | exact Nat.le_of_ble_eq_true (Eq.refl true) | decide))))); (conv => whnf); apply Exists.intro; apply Exists.intro; apply And.intro; (focus (((repeat (first | ((conv => whnf); (with_reducible refine And.intro ?_ ?_); (focus (first | exact Eq.refl _ | exact trivial | exact Int.natCast_nonneg _ | assumption | exact Nat.le_of_ble_eq_true (Eq.refl true) | decide))))); (conv => whnf)) <;> (exact rfl))); apply And.intro; (focus exact rfl); (conv => whnf))
        ((repeat (first | ((conv => whnf); (with_reducible refine And.intro ?_ ?_); (focus (first | exact Eq.refl _ | exact trivial | exact Int.natCast_nonneg _ | assumption | exact Nat.le_of_ble_eq_true (Eq.refl true) | decide))))); (conv => whnf); apply Exists.intro; apply Exists.intro; apply And.intro; (focus (((repeat (first | ((conv => whnf); (with_reducible refine And.intro ?_ ?_); (focus (first | exact Eq.refl _ | exact trivial | exact Int.natCast_nonneg _ | assumption | exact Nat.le_of_ble_eq_true (Eq.refl true) | decide))))); (conv => whnf)) <;> (exact rfl))); apply And.intro; (focus exact rfl); (conv => whnf))
        ((repeat (first | ((conv => whnf); (with_reducible refine And.intro ?_ ?_); (focus (first | exact Eq.refl _ | exact trivial | exact Int.natCast_nonneg _ | assumption | exact Nat.le_of_ble_eq_true (Eq.refl true) | decide))))); (conv => whnf); apply Exists.intro; apply Exists.intro; apply And.intro; (focus (((repeat (first | ((conv => whnf); (with_reducible refine And.intro ?_ ?_); (focus (first | exact Eq.refl _ | exact trivial | exact Int.natCast_nonneg _ | assumption | exact Nat.le_of_ble_eq_true (Eq.refl true) | decide))))); (conv => whnf)) <;> (exact rfl))); apply And.intro; (focus exact rfl); (conv => whnf))
        ((repeat (first | ((conv => whnf); (with_reducible refine And.intro ?_ ?_); (focus (first | exact Eq.refl _ | exact trivial | exact Int.natCast_nonneg _ | assumption | exact Nat.le_of_ble_eq_true (Eq.refl true) | decide))))); (conv => whnf); apply Exists.intro; apply Exists.intro; apply And.intro; (focus (((repeat (first | ((conv => whnf); (with_reducible refine And.intro ?_ ?_); (focus (first | exact Eq.refl _ | exact trivial | exact Int.natCast_nonneg _ | assumption | exact Nat.le_of_ble_eq_true (Eq.refl true) | decide))))); (conv => whnf)) <;> (exact rfl))); apply And.intro; (focus exact rfl); (conv => whnf))
        ((repeat (first | ((conv => whnf); (with_reducible refine And.intro ?_ ?_); (focus (first | exact Eq.refl _ | exact trivial | exact Int.natCast_nonneg _ | assumption | exact Nat.le_of_ble_eq_true (Eq.refl true) | decide))))); (conv => whnf); apply Exists.intro; apply Exists.intro; apply And.intro; (focus (((repeat (first | ((conv => whnf); (with_reducible refine And.intro ?_ ?_); (focus (first | exact Eq.refl _ | exact trivial | exact Int.natCast_nonneg _ | assumption | exact Nat.le_of_ble_eq_true (Eq.refl true) | decide))))); (conv => whnf)) <;> (exact rfl))); apply And.intro; (focus exact rfl); (conv => whnf))
        ((repeat (first | ((conv => whnf); (with_reducible refine And.intro ?_ ?_); (focus (first | exact Eq.refl _ | exact trivial | exact Int.natCast_nonneg _ | assumption | exact Nat.le_of_ble_eq_true (Eq.refl true) | decide))))); (conv => whnf); apply Exists.intro; apply Exists.intro; apply And.intro; (focus (((repeat (first | ((conv => whnf); (with_reducible refine And.intro ?_ ?_); (focus (first | exact Eq.refl _ | exact trivial | exact Int.natCast_nonneg _ | assumption | exact Nat.le_of_ble_eq_true (Eq.refl true) | decide))))); (conv => whnf)) <;> (exact rfl))); apply And.intro; (focus exact rfl); (conv => whnf))
        ((repeat (first | ((conv => whnf); (with_reducible refine And.intro ?_ ?_); (focus (first | exact Eq.refl _ | exact trivial | exact Int.natCast_nonneg _ | assumption | exact Nat.le_of_ble_eq_true (Eq.refl true) | decide))))); (conv => whnf); apply Exists.intro; apply Exists.intro; apply And.intro; (focus (((repeat (first | ((conv => whnf); (with_reducible refine And.intro ?_ ?_); (focus (first | exact Eq.refl _ | exact trivial | exact Int.natCast_nonneg _ | assumption | exact Nat.le_of_ble_eq_true (Eq.refl true) | decide))))); (conv => whnf)) <;> (exact rfl))); apply And.intro; (focus exact rfl); (conv => whnf))
        ((repeat (first | ((conv => whnf); (with_reducible refine And.intro ?_ ?_); (focus (first | exact Eq.refl _ | exact trivial | exact Int.natCast_nonneg _ | assumption | exact Nat.le_of_ble_eq_true (Eq.refl true) | decide))))); (conv => whnf); apply Exists.intro; apply Exists.intro; apply And.intro; (focus (((repeat (first | ((conv => whnf); (with_reducible refine And.intro ?_ ?_); (focus (first | exact Eq.refl _ | exact trivial | exact Int.natCast_nonneg _ | assumption | exact Nat.le_of_ble_eq_true (Eq.refl true) | decide))))); (conv => whnf)) <;> (exact rfl))); apply And.intro; (focus exact rfl); (conv => whnf))
        ((repeat (first | ((conv => whnf); (with_reducible refine And.intro ?_ ?_); (focus (first | exact Eq.refl _ | exact trivial | exact Int.natCast_nonneg _ | assumption | exact Nat.le_of_ble_eq_true (Eq.refl true) | decide))))); (conv => whnf); apply Exists.intro; apply Exists.intro; apply And.intro; (focus (((repeat (first | ((conv => whnf); (with_reducible refine And.intro ?_ ?_); (focus (first | exact Eq.refl _ | exact trivial | exact Int.natCast_nonneg _ | assumption | exact Nat.le_of_ble_eq_true (Eq.refl true) | decide))))); (conv => whnf)) <;> ((intro hlen0; (try rw [List.length_map]))) <;> ((repeat (first | ((conv => whnf); (with_reducible refine And.intro ?_ ?_); (focus (first | exact Eq.refl _ | exact trivial | exact Int.natCast_nonneg _ | assumption | exact Nat.le_of_ble_eq_true (Eq.refl true) | decide))))); (conv => whnf)) <;> (exact rfl))); apply And.intro; (focus exact rfl); (conv => whnf))
        ((repeat (first | ((conv => whnf); (with_reducible refine And.intro ?_ ?_); (focus (first | exact Eq.refl _ | exact trivial | exact Int.natCast_nonneg _ | assumption | exact Nat.le_of_ble_eq_true (Eq.refl true) | decide))))); (conv => whnf); apply Exists.intro; apply Exists.intro; apply And.intro; (focus (((repeat (first | ((conv => whnf); (with_reducible refine And.intro ?_ ?_); (focus (first | exact Eq.refl _ | exact trivial | exact Int.natCast_nonneg _ | assumption | exact Nat.le_of_ble_eq_true (Eq.refl true) | decide))))); (conv => whnf)) <;> (exact rfl))); apply And.intro; (focus exact rfl); (conv => whnf))
        ((repeat (first | ((conv => whnf); (with_reducible refine And.intro ?_ ?_); (focus (first | exact Eq.refl _ | exact trivial | exact Int.natCast_nonneg _ | assumption | exact Nat.le_of_ble_eq_true (Eq.refl true) | decide))))); (conv => whnf); apply Exists.intro; apply Exists.intro; apply And.intro; (focus (((repeat (first | ((conv => whnf); (with_reducible refine And.intro ?_ ?_); (focus (first | exact Eq.refl _ | exact trivial | exact Int.natCast_nonneg _ | assumption | exact Nat.le_of_ble_eq_true (Eq.refl true) | decide))))); (conv => whnf)) <;> (exact rfl))); apply And.intro; (focus exact rfl); (conv => whnf))
        ((repeat (first | ((conv => whnf); (with_reducible refine And.intro ?_ ?_); (focus (first | exact Eq.refl _ | exact trivial | exact Int.natCast_nonneg _ | assumption | exact Nat.le_of_ble_eq_true (Eq.refl true) | decide))))); (conv => whnf); apply Exists.intro; apply Exists.intro; apply And.intro; (focus (((repeat (first | ((conv => whnf); (with_reducible refine And.intro ?_ ?_); (focus (first | exact Eq.refl _ | exact trivial | exact Int.natCast_nonneg _ | assumption | exact Nat.le_of_ble_eq_true (Eq.refl true) | decide))))); (conv => whnf)) <;> (exact rfl))); apply And.intro; (focus exact rfl); (conv => whnf))
        (repeat (first | ((conv => whnf); (with_reducible refine And.intro ?_ ?_); (focus (first | exact Eq.refl _ | exact trivial | exact Int.natCast_nonneg _ | assumption | exact Nat.le_of_ble_eq_true (Eq.refl true) | decide))))); (conv => whnf)
        refine branchG_intro true (fun hc117 => ?_) (fun hc117 => ?_)
        · have hc115 := if_then (by first | assumption | exact Eq.refl _ | simp only [hc116, hc117, Bool.and_true, Bool.true_and, Bool.and_false, Bool.false_and, Bool.or_true, Bool.true_or, Bool.or_false, Bool.false_or, Bool.not_true, Bool.not_false, cond_true, cond_false, List.length_map]) hc115
          obtain ⟨x114, hx1140, hx114, hc115⟩ := ix_some hc115
          (conv => whnf)
          ((repeat (first | ((conv => whnf); (with_reducible refine And.intro ?_ ?_); (focus (first | exact Eq.refl _ | exact trivial | exact Int.natCast_nonneg _ | assumption | exact Nat.le_of_ble_eq_true (Eq.refl true) | decide))))); (conv => whnf); apply Exists.intro; apply Exists.intro; apply And.intro; (focus (((repeat (first | ((conv => whnf); (with_reducible refine And.intro ?_ ?_); (focus (first | exact Eq.refl _ | exact trivial | exact Int.natCast_nonneg _ | assumption | exact Nat.le_of_ble_eq_true (Eq.refl true) | decide))))); (conv => whnf)) <;> (exact rfl))); apply And.intro; (focus exact rfl); (conv => whnf))
          ((repeat (first | ((conv => whnf); (with_reducible refine And.intro ?_ ?_); (focus (first | exact Eq.refl _ | exact trivial | exact Int.natCast_nonneg _ | assumption | exact Nat.le_of_ble_eq_true (Eq.refl true) | decide))))); (conv => whnf); apply Exists.intro; apply Exists.intro; apply And.intro; (focus (((repeat (first | ((conv => whnf); (with_reducible refine And.intro ?_ ?_); (focus (first | exact Eq.refl _ | exact trivial | exact Int.natCast_nonneg _ | assumption | exact Nat.le_of_ble_eq_true (Eq.refl true) | decide))))); (conv => whnf)) <;> (exact rfl))); apply And.intro; (focus exact rfl); (conv => whnf))
          ((repeat (first | ((conv => whnf); (with_reducible refine And.intro ?_ ?_); (focus (first | exact Eq.refl _ | exact trivial | exact Int.natCast_nonneg _ | assumption | exact Nat.le_of_ble_eq_true (Eq.refl true) | decide))))); (conv => whnf); apply Exists.intro; apply Exists.intro; apply And.intro; (focus (((repeat (first | ((conv => whnf); (with_reducible refine And.intro ?_ ?_); (focus (first | exact Eq.refl _ | exact trivial | exact Int.natCast_nonneg _ | assumption | exact Nat.le_of_ble_eq_true (Eq.refl true) | decide))))); (conv => whnf)) <;> (exact rfl))); apply And.intro; (focus exact rfl); (conv => whnf))
          ((repeat (first | ((conv => whnf); (with_reducible refine And.intro ?_ ?_); (focus (first | exact Eq.refl _ | exact trivial | exact Int.natCast_nonneg _ | assumption | exact Nat.le_of_ble_eq_true (Eq.refl true) | decide))))); (conv => whnf); apply Exists.intro; apply Exists.intro; apply And.intro; (focus (((repeat (first | ((conv => whnf); (with_reducible refine And.intro ?_ ?_); (focus (first | exact Eq.refl _ | exact trivial | exact Int.natCast_nonneg _ | assumption | exact Nat.le_of_ble_eq_true (Eq.refl true) | decide))))); (conv => whnf)) <;> (exact rfl))); apply And.intro; (focus exact rfl); (conv => whnf))
          ((repeat (first | ((conv => whnf); (with_reducible refine And.intro ?_ ?_); (focus (first | exact Eq.refl _ | exact trivial | exact Int.natCast_nonneg _ | assumption | exact Nat.le_of_ble_eq_true (Eq.refl true) | decide))))); (conv => whnf); apply Exists.intro; apply Exists.intro; apply And.intro; (focus (((repeat (first | ((conv => whnf); (with_reducible refine And.intro ?_ ?_); (focus (first | exact Eq.refl _ | exact trivial | exact Int.natCast_nonneg _ | assumption | exact Nat.le_of_ble_eq_true (Eq.refl true) | decide))))); (conv => whnf)) <;> (exact rfl))); apply And.intro; (focus exact rfl); (conv => whnf))
          ((repeat (first | ((conv => whnf); (with_reducible refine And.intro ?_ ?_); (focus (first | exact Eq.refl _ | exact trivial | exact Int.natCast_nonneg _ | assumption | exact Nat.le_of_ble_eq_true (Eq.refl true) | decide))))); (conv => whnf); apply Exists.intro; apply Exists.intro; apply And.intro; (focus (((repeat (first | ((conv => whnf); (with_reducible refine And.intro ?_ ?_); (focus (first | exact Eq.refl _ | exact trivial | exact Int.natCast_nonneg _ | assumption | exact Nat.le_of_ble_eq_true (Eq.refl true) | decide))))); (conv => whnf)) <;> (exact rfl))); apply And.intro; (focus exact rfl); (conv => whnf))
          ((repeat (first | ((conv => whnf); (with_reducible refine And.intro ?_ ?_); (focus (first | exact Eq.refl _ | exact trivial | exact Int.natCast_nonneg _ | assumption | exact Nat.le_of_ble_eq_true (Eq.refl true) | decide))))); (conv => whnf); apply Exists.intro; apply Exists.intro; apply And.intro; (focus (((repeat (first | ((conv => whnf); (with_reducible refine And.intro ?_ ?_); (focus (first | exact Eq.refl _ | exact trivial | exact Int.natCast_nonneg _ | assumption | exact Nat.le_of_ble_eq_true (Eq.refl true) | decide))))); (conv => whnf)) <;> (exact rfl))); apply And.intro; (focus exact rfl); (conv => whnf))
          ((repeat (first | ((conv => whnf); (with_reducible refine And.intro ?_ ?_); (focus (first | exact Eq.refl _ | exact trivial | exact Int.natCast_nonneg _ | assumption | exact Nat.le_of_ble_eq_true (Eq.refl true) | decide))))); (conv => whnf); apply Exists.intro; apply Exists.intro; apply And.intro; (focus (((repeat (first | ((conv => whnf); (with_reducible refine And.intro ?_ ?_); (focus (first | exact Eq.refl _ | exact trivial | exact Int.natCast_nonneg _ | assumption | exact Nat.le_of_ble_eq_true (Eq.refl true) | decide))))); (conv => whnf)) <;> (exact rfl))); apply And.intro; (focus exact rfl); (conv => whnf))
          (repeat (first | ((conv => whnf); (with_reducible refine And.intro ?_ ?_); (focus (first | exact Eq.refl _ | exact trivial | exact Int.natCast_nonneg _ | assumption | exact Nat.le_of_ble_eq_true (Eq.refl true) | decide))) | ((conv => whnf); rw [map_getI rfl hx114]))); (conv => whnf)
          obtain rfl := some_eq hc115
          (repeat (first | ((conv => whnf); (with_reducible refine And.intro ?_ ?_); (focus (first | exact Eq.refl _ | exact trivial | exact Int.natCast_nonneg _ | assumption | exact Nat.le_of_ble_eq_true (Eq.refl true) | decide))))); (conv => whnf)
          exact Exists.intro (rn [(4303, 4303)]) (WS.mk (wt_cons wd_ptr (wt_cons (wd_c (WE.refl _)) (wt_cons wd_ptr (wt_cons wd_ptr (wt_cons (wd_c (we_b (by first | exact Eq.refl _ | simp only [hc116, hc117, Bool.and_true, Bool.true_and, Bool.and_false, Bool.false_and, Bool.or_true, Bool.true_or, Bool.or_false, Bool.false_or, Bool.not_true, Bool.not_false, cond_true, cond_false, List.length_map]))) wt_nil))))) (wb_cons rfl (wc_c (WE.refl _) (wc_c (WE.refl _) (wc_c (WE.refl _) (wc_c (WE.refl _) (wc_c (WE.refl _) (wc_c (WE.refl _) wc_nil)))))) (wb_cons rfl (wc_c (WE.refl _) (wc_c (WE.refl _) (wc_c (WE.refl _) (wc_own rfl (WE.refl _) (wc_c (WE.refl _) (wc_c (WE.refl _) wc_nil)))))) (wb_cons rfl (wc_c (WE.refl _) (wc_c (WE.refl _) (wc_c (WE.refl _) wc_nil))) wb_nil))))
        · have hc115 := if_else (by first | assumption | exact Eq.refl _ | simp only [hc116, hc117, Bool.and_true, Bool.true_and, Bool.and_false, Bool.false_and, Bool.or_true, Bool.true_or, Bool.or_false, Bool.false_or, Bool.not_true, Bool.not_false, cond_true, cond_false, List.length_map]) hc115
          (conv => whnf)
          obtain rfl := some_eq hc115
          (repeat (first | ((conv => whnf); (with_reducible refine And.intro ?_ ?_); (focus (first | exact Eq.refl _ | exact trivial | exact Int.natCast_nonneg _ | assumption | exact Nat.le_of_ble_eq_true (Eq.refl true) | decide))))); (conv => whnf)
          exact Exists.intro (rn [(4303, 4303)]) (WS.mk (wt_cons wd_ptr (wt_cons (wd_c (WE.refl _)) (wt_cons wd_ptr (wt_cons wd_ptr (wt_cons (wd_c (we_b (by first | exact Eq.refl _ | simp only [hc116, hc117, Bool.and_true, Bool.true_and, Bool.and_false, Bool.false_and, Bool.or_true, Bool.true_or, Bool.or_false, Bool.false_or, Bool.not_true, Bool.not_false, cond_true, cond_false, List.length_map]))) wt_nil))))) (wb_cons rfl (wc_c (WE.refl _) (wc_c (WE.refl _) (wc_c (WE.refl _) (wc_c (WE.refl _) (wc_c (WE.refl _) (wc_c (WE.refl _) wc_nil)))))) (wb_cons rfl (wc_c (WE.refl _) (wc_c (WE.refl _) (wc_c (WE.refl _) (wc_own rfl (WE.refl _) (wc_c (WE.refl _) (wc_c (WE.refl _) wc_nil)))))) (wb_cons rfl (wc_c (WE.refl _) (wc_c (WE.refl _) (wc_c (WE.refl _) wc_nil))) wb_nil))))
      · (conv => whnf)
        ((repeat (first | ((conv => whnf); (with_reducible refine And.intro ?_ ?_); (focus (first | exact Eq.refl _ | exact trivial | exact Int.natCast_nonneg _ | assumption | exact Nat.le_of_ble_eq_true (Eq.refl true) | decide))))); (conv => whnf); apply Exists.intro; apply Exists.intro; apply And.intro; (focus (((repeat (first | ((conv => whnf); (with_reducible refine And.intro ?_ ?_); (focus (first | exact Eq.refl _ | exact trivial | exact Int.natCast_nonneg _ | assumption | exact Nat.le_of_ble_eq_true (Eq.refl true) | decide))))); (conv => whnf)) <;> (exact rfl))); apply And.intro; (focus exact rfl); (conv => whnf))
        ((repeat (first | ((conv => whnf); (with_reducible refine And.intro ?_ ?_); (focus (first | exact Eq.refl _ | exact trivial | exact Int.natCast_nonneg _ | assumption | exact Nat.le_of_ble_eq_true (Eq.refl true) | decide))))); (conv => whnf); apply Exists.intro; apply Exists.intro; apply And.intro; (focus (((repeat (first | ((conv => whnf); (with_reducible refine And.intro ?_ ?_); (focus (first | exact Eq.refl _ | exact trivial | exact Int.natCast_nonneg _ | assumption | exact Nat.le_of_ble_eq_true (Eq.refl true) | decide))))); (conv => whnf)) <;> (exact rfl))); apply And.intro; (focus exact rfl); (conv => whnf))
        have hc115 := if_else (by first | assumption | exact Eq.refl _ | simp only [hc116, Bool.and_true, Bool.true_and, Bool.and_false, Bool.false_and, Bool.or_true, Bool.true_or, Bool.or_false, Bool.false_or, Bool.not_true, Bool.not_false, cond_true, cond_false, List.length_map]) hc115
        obtain rfl := some_eq hc115
        (repeat (first | ((conv => whnf); (with_reducible refine And.intro ?_ ?_); (focus (first | exact Eq.refl _ | exact trivial | exact Int.natCast_nonneg _ | assumption | exact Nat.le_of_ble_eq_true (Eq.refl true) | decide))))); (conv => whnf)
        exact Exists.intro (rn [(4303, 4303)]) (WS.mk (wt_cons wd_ptr (wt_cons (wd_c (WE.refl _)) (wt_cons wd_ptr (wt_cons wd_ptr (wt_cons (wd_c (we_b (by first | exact Eq.refl _ | simp only [hc116, Bool.and_true, Bool.true_and, Bool.and_false, Bool.false_and, Bool.or_true, Bool.true_or, Bool.or_false, Bool.false_or, Bool.not_true, Bool.not_false, cond_true, cond_false, List.length_map]))) wt_nil))))) (wb_cons rfl (wc_c (WE.refl _) (wc_c (WE.refl _) (wc_c (WE.refl _) (wc_c (WE.refl _) (wc_c (WE.refl _) (wc_c (WE.refl _) wc_nil)))))) (wb_cons rfl (wc_c (WE.refl _) (wc_c (WE.refl _) (wc_c (WE.refl _) (wc_own rfl (WE.refl _) (wc_c (WE.refl _) (wc_c (WE.refl _) wc_nil)))))) (wb_cons rfl (wc_c (WE.refl _) (wc_c (WE.refl _) (wc_c (WE.refl _) wc_nil))) wb_nil))))
    obtain ⟨r0, hw⟩ := hw
    (conv => whnf)
    refine AWP.weak r0 hw ?_
    refine nd (by decide) _ _ _ ?_
    (conv => whnf)
    refine branch_hF hF (fun hc118 hF => ?_) (fun hc118 hF => ?_)
    · refine nd (by decide) _ _ _ ?_
      (conv => whnf)
      refine AWP.block ?_
      obtain ⟨r119, hr119, hF⟩ := bind_some hF
      obtain ⟨hg120, hF⟩ := guard_some hF
      refine nd (by decide) _ _ _ ?_
      refine Exists.intro 7 (Exists.intro [[], [], [], [], [], [1000], []] (Exists.intro [([76, 77, 78, 79, 80, 81, 82], [1000], []), ([77, 78, 79, 80, 81, 82], [1000], []), ([76, 77, 78, 79, 80, 81, 82], [], []), ([76, 77, 78, 79, 80, 81, 82], [], []), ([76, 77, 78, 80, 81, 82], [], []), ([76, 77, 81, 82], [], [1000]), ([76, 77, 82], [], [])] (Exists.intro [76, 77, 78, 79, 80, 81, 82] (And.intro (by decide +kernel) ?_))))
      ((repeat (first | ((conv => whnf); (with_reducible refine And.intro ?_ ?_); (focus (first | exact Eq.refl _ | exact trivial | exact Int.natCast_nonneg _ | assumption | exact Nat.le_of_ble_eq_true (Eq.refl true) | decide))))); (conv => whnf); apply Exists.intro; apply Exists.intro; apply And.intro; (focus (((repeat (first | ((conv => whnf); (with_reducible refine And.intro ?_ ?_); (focus (first | exact Eq.refl _ | exact trivial | exact Int.natCast_nonneg _ | assumption | exact Nat.le_of_ble_eq_true (Eq.refl true) | decide))))); (conv => whnf)) <;> (exact rfl))); apply And.intro; (focus exact rfl); (conv => whnf))
      ((repeat (first | ((conv => whnf); (with_reducible refine And.intro ?_ ?_); (focus (first | exact Eq.refl _ | exact trivial | exact Int.natCast_nonneg _ | assumption | exact Nat.le_of_ble_eq_true (Eq.refl true) | decide))))); (conv => whnf); apply Exists.intro; apply Exists.intro; apply And.intro; (focus (((repeat (first | ((conv => whnf); (with_reducible refine And.intro ?_ ?_); (focus (first | exact Eq.refl _ | exact trivial | exact Int.natCast_nonneg _ | assumption | exact Nat.le_of_ble_eq_true (Eq.refl true) | decide))))); (conv => whnf)) <;> (exact rfl))); apply And.intro; (focus exact rfl); (conv => whnf))
      ((repeat (first | ((conv => whnf); (with_reducible refine And.intro ?_ ?_); (focus (first | exact Eq.refl _ | exact trivial | exact Int.natCast_nonneg _ | assumption | exact Nat.le_of_ble_eq_true (Eq.refl true) | decide))))); (conv => whnf); apply Exists.intro; apply Exists.intro; apply And.intro; (focus (((repeat (first | ((conv => whnf); (with_reducible refine And.intro ?_ ?_); (focus (first | exact Eq.refl _ | exact trivial | exact Int.natCast_nonneg _ | assumption | exact Nat.le_of_ble_eq_true (Eq.refl true) | decide))))); (conv => whnf)) <;> (exact rfl))); apply And.intro; (focus exact rfl); (conv => whnf))
      ((repeat (first | ((conv => whnf); (with_reducible refine And.intro ?_ ?_); (focus (first | exact Eq.refl _ | exact trivial | exact Int.natCast_nonneg _ | assumption | exact Nat.le_of_ble_eq_true (Eq.refl true) | decide))))); (conv => whnf); apply Exists.intro; apply Exists.intro; apply And.intro; (focus (((repeat (first | ((conv => whnf); (with_reducible refine And.intro ?_ ?_); (focus (first | exact Eq.refl _ | exact trivial | exact Int.natCast_nonneg _ | assumption | exact Nat.le_of_ble_eq_true (Eq.refl true) | decide))))); (conv => whnf)) <;> (exact rfl))); apply And.intro; (focus exact rfl); (conv => whnf))
      ((repeat (first | ((conv => whnf); (with_reducible refine And.intro ?_ ?_); (focus (first | exact Eq.refl _ | exact trivial | exact Int.natCast_nonneg _ | assumption | exact Nat.le_of_ble_eq_true (Eq.refl true) | decide))))); (conv => whnf); apply Exists.intro; apply Exists.intro; apply And.intro; (focus (((repeat (first | ((conv => whnf); (with_reducible refine And.intro ?_ ?_); (focus (first | exact Eq.refl _ | exact trivial | exact Int.natCast_nonneg _ | assumption | exact Nat.le_of_ble_eq_true (Eq.refl true) | decide))))); (conv => whnf)) <;> (exact rfl))); apply And.intro; (focus exact rfl); (conv => whnf))
      ((repeat (first | ((conv => whnf); (with_reducible refine And.intro ?_ ?_); (focus (first | exact Eq.refl _ | exact trivial | exact Int.natCast_nonneg _ | assumption | exact Nat.le_of_ble_eq_true (Eq.refl true) | decide))))); (conv => whnf); apply Exists.intro; apply Exists.intro; apply And.intro; (focus ((conv => whnf); refine And.intro rfl ?_; (conv => whnf); refine CallsX.mono (CallsX.weak (rn []) (ih_values_reader_value c_1000_0_s (IntKind.i64.wrap (a1_ + 1)) _ hr119) rfl (WS.mk (wt_cons wd_ptr (wt_cons (wd_c (WE.refl _)) wt_nil)) (wb_cons rfl (wc_c (WE.refl _) (wc_c (WE.refl _) (wc_c (WE.refl _) wc_nil))) wb_nil))) ?_; rintro d b ⟨rfl, rfl⟩; exact And.intro rfl rfl)); apply And.intro; (focus exact rfl); (conv => whnf))
      ((repeat (first | ((conv => whnf); (with_reducible refine And.intro ?_ ?_); (focus (first | exact Eq.refl _ | exact trivial | exact Int.natCast_nonneg _ | assumption | exact Nat.le_of_ble_eq_true (Eq.refl true) | decide))))); (conv => whnf); apply Exists.intro; apply Exists.intro; apply And.intro; (focus (((repeat (first | ((conv => whnf); (with_reducible refine And.intro ?_ ?_); (focus (first | exact Eq.refl _ | exact trivial | exact Int.natCast_nonneg _ | assumption | exact Nat.le_of_ble_eq_true (Eq.refl true) | decide))))); (conv => whnf)) <;> (refine Exists.intro _ (And.intro (we_rows (f := TValue.cells) (wl_eq (TValue.cells_eq r119.1) (wl_cons (WE.refl _) (wl_cons (WE.refl _) (wl_cons (WE.refl _) (wl_cons (WE.refl _) (wl_cons (WE.refl _) (wl_cons (WE.refl _) wl_nil))))))) (we_rows_nil (f := TValue.cells))) ?_)) <;> ((repeat (first | ((conv => whnf); (with_reducible refine And.intro ?_ ?_); (focus (first | exact Eq.refl _ | exact trivial | exact Int.natCast_nonneg _ | assumption | exact Nat.le_of_ble_eq_true (Eq.refl true) | decide))))); (conv => whnf)) <;> (exact rfl))); apply And.intro; (focus exact rfl); (conv => whnf))
      (repeat (first | ((conv => whnf); (with_reducible refine And.intro ?_ ?_); (focus (first | exact Eq.refl _ | exact trivial | exact Int.natCast_nonneg _ | assumption | exact Nat.le_of_ble_eq_true (Eq.refl true) | decide))))); (conv => whnf)
      refine And.intro (by first | exact rows_map _ (fun x => TValue.cells_len x) | exact rows_nil) (And.intro (by first | exact rows_map _ (fun x => TValue.cells_len x) | exact rows_nil) (And.intro (by have h := hg120; simp only [List.length_map, List.length_append, List.length_cons, List.length_nil, Nat.zero_add] at h ⊢; first | exact h | (unfold maxLen; omega) | omega) (And.intro (by have h := hg120; simp only [List.length_map, List.length_append, List.length_cons, List.length_nil, Nat.zero_add] at h ⊢; first | exact h | (unfold maxLen; omega) | omega) (Exists.intro _ (And.intro (WE.refl _) ?_)))))
      rw [← List.map_append]
      (repeat (first | ((conv => whnf); (with_reducible refine And.intro ?_ ?_); (focus (first | exact Eq.refl _ | exact trivial | exact Int.natCast_nonneg _ | assumption | exact Nat.le_of_ble_eq_true (Eq.refl true) | decide))))); (conv => whnf)
      refine AWL.weak (rn [(83, 4303)]) ?_ (ih_values_reader_value_l1 a1_ r70 (c_6_3 ++ ([r119.1])) r119.2 _ hF)
      exact (WS.mk (wt_cons wd_ptr (wt_cons (wd_c (WE.refl _)) (wt_cons wd_ptr (wt_cons wd_ptr wt_nil)))) (wb_cons rfl (wc_c (WE.refl _) (wc_c (WE.refl _) (wc_c (WE.refl _) (wc_c (WE.refl _) (wc_c (WE.refl _) (wc_c (WE.refl _) wc_nil)))))) (wb_cons rfl (wc_c (WE.refl _) (wc_c (WE.refl _) (wc_c (WE.refl _) (wc_own rfl (WE.refl _) (wc_c (WE.refl _) (wc_c (WE.refl _) wc_nil)))))) (wb_cons rfl (wc_c (WE.refl _) (wc_c (WE.refl _) (wc_c (WE.refl _) wc_nil))) wb_nil))))
    · refine nd (by decide) _ _ _ ?_
      (conv => whnf)
      refine AWP.seq ?_
      obtain ⟨r121, hr121, hF⟩ := bind_some hF
      refine nd (by decide) _ _ _ ?_
      (repeat (first | ((conv => whnf); (with_reducible refine And.intro ?_ ?_); (focus (first | exact Eq.refl _ | exact trivial | exact Int.natCast_nonneg _ | assumption | exact Nat.le_of_ble_eq_true (Eq.refl true) | decide))))); (conv => whnf)
      refine Exists.intro [] ?_
      (repeat (first | ((conv => whnf); (with_reducible refine And.intro ?_ ?_); (focus (first | exact Eq.refl _ | exact trivial | exact Int.natCast_nonneg _ | assumption | exact Nat.le_of_ble_eq_true (Eq.refl true) | decide))))); (conv => whnf)
      refine CallsX.mono (CallsX.weak (rn []) (values_reader_next_ok c_1000_0_s _ hr121) rfl (WS.mk (wt_cons wd_ptr wt_nil) (wb_cons rfl (wc_c (WE.refl _) (wc_c (WE.refl _) (wc_c (WE.refl _) wc_nil))) wb_nil))) ?_
      rintro d b ⟨rfl, rfl⟩
      (repeat (first | ((conv => whnf); (with_reducible refine And.intro ?_ ?_); (focus (first | exact Eq.refl _ | exact trivial | exact Int.natCast_nonneg _ | assumption | exact Nat.le_of_ble_eq_true (Eq.refl true) | decide))))); (conv => whnf)
      (repeat (first | ((conv => whnf); (with_reducible refine And.intro ?_ ?_); (focus (first | exact Eq.refl _ | exact trivial | exact Int.natCast_nonneg _ | assumption | exact Nat.le_of_ble_eq_true (Eq.refl true) | decide))))); (conv => whnf)
      refine AWP.seq ?_
      refine nd (by decide) _ _ _ ?_
      (repeat (first | ((conv => whnf); (with_reducible refine And.intro ?_ ?_); (focus (first | exact Eq.refl _ | exact trivial | exact Int.natCast_nonneg _ | assumption | exact Nat.le_of_ble_eq_true (Eq.refl true) | decide))))); (conv => whnf)
      obtain rfl := some_eq hF
      refine nd (by decide) _ _ _ ?_
      (repeat (first | ((conv => whnf); (with_reducible refine And.intro ?_ ?_); (focus (first | exact Eq.refl _ | exact trivial | exact Int.natCast_nonneg _ | assumption | exact Nat.le_of_ble_eq_true (Eq.refl true) | decide))))); (conv => whnf)
      exact Exists.intro (rn []) (WS.mk (wt_cons (wd_agg (wl_cons (WE.refl _) (wl_cons (WE.refl _) (wl_cons (WE.refl _) (wl_cons (WE.refl _) (wl_cons (WE.refl _) (wl_cons WE.nil wl_nil))))))) wt_nil) (wb_cons rfl (wc_c (WE.refl _) (wc_c (WE.refl _) (wc_c (WE.refl _) wc_nil))) wb_nil))
theorem values_reader_value_ok : ∀ (toArray : Tvalues_reader) (a1_ : Int), ∀ r, values_reader_value toArray a1_ = some r → values_reader_value.M toArray a1_ r := values_reader_value_all.1
theorem values_reader_value_l1_ok : ∀ (a1_ : Int) (r70 : (ByteArray × Tvalues_reader)) (c_6_3 : (List TValue)) (c_1000_0_s : Tvalues_reader), ∀ r, values_reader_value_l1 a1_ r70 c_6_3 c_1000_0_s = some r → values_reader_value_l1.M a1_ r70 c_6_3 c_1000_0_s r := values_reader_value_all.2
end Go.Proofs.YtafniolcakiljaaDoor

