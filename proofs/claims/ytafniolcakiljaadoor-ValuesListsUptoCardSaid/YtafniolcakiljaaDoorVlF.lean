/- Part 6 of the proof: the lifted functions and their walks. It holds for every input, without conditions. -/
import Derived.Test.YtafniolcakiljaaDoorVlA
import Derived.Test.YtafniolcakiljaaDoorVlB
import Derived.Test.YtafniolcakiljaaDoorVlC
import Derived.Test.YtafniolcakiljaaDoorVlD
import Derived.Test.YtafniolcakiljaaDoorVlE
set_option linter.unusedVariables false
set_option linter.unusedSimpArgs false
set_option maxRecDepth 100000
set_option maxHeartbeats 4000000
namespace Go.Proofs.YtafniolcakiljaaDoor
open Go Go.Am
def lazyclaw25_example : Option (Bool) :=
  values_Text (TValue.mk 3 (ByteArray.mk #[58]) 0 ([(TValue.mk 2 (ByteArray.mk #[]) 97 ([] : List TValue) (TExcSet.mk false ([] : List TExc))), (TValue.mk 3 (ByteArray.mk #[91, 93]) 0 ([] : List TValue) (TExcSet.mk false ([] : List TExc)))]) (TExcSet.mk false ([] : List TExc))) >>= fun r1 =>
  values_Print (TValue.mk 3 (ByteArray.mk #[58]) 0 ([(TValue.mk 2 (ByteArray.mk #[]) 97 ([] : List TValue) (TExcSet.mk false ([] : List TExc))), (TValue.mk 3 (ByteArray.mk #[91, 93]) 0 ([] : List TValue) (TExcSet.mk false ([] : List TExc)))]) (TExcSet.mk false ([] : List TExc))) >>= fun r2 =>
  (if (((r2.toList == (ByteArray.mk #[40, 32, 58, 32, 35, 57, 55, 32, 91, 93, 32, 41]).toList) && (r1.1.toList == (ByteArray.mk #[97]).toList)) && r1.2) = true then values_Refines (TValue.mk 3 (ByteArray.mk #[58]) 0 ([(TValue.mk 2 (ByteArray.mk #[]) 97 ([] : List TValue) (TExcSet.mk false ([] : List TExc))), (TValue.mk 3 (ByteArray.mk #[91, 93]) 0 ([] : List TValue) (TExcSet.mk false ([] : List TExc)))]) (TExcSet.mk false ([] : List TExc))) (TValue.mk 5 (ByteArray.mk #[]) 0 ([] : List TValue) (TExcSet.mk true ([] : List TExc))) >>= fun r3 =>
  some r3 else some false) >>= fun c4 =>
  (if c4 = true then values_Refines (TValue.mk 5 (ByteArray.mk #[]) 0 ([] : List TValue) (TExcSet.mk true ([] : List TExc))) (TValue.mk 3 (ByteArray.mk #[58]) 0 ([(TValue.mk 2 (ByteArray.mk #[]) 97 ([] : List TValue) (TExcSet.mk false ([] : List TExc))), (TValue.mk 3 (ByteArray.mk #[91, 93]) 0 ([] : List TValue) (TExcSet.mk false ([] : List TExc)))]) (TExcSet.mk false ([] : List TExc))) >>= fun r5 =>
  some (!r5) else some false) >>= fun c6 =>
  some c6
def lazyclaw25_example.M (r : Bool) : Prop :=
  CallsX Tryd.prog 12 [] [] (fun d b => d = .c none (.v (.bool r)) ∧ b = [])
theorem lazyclaw25_example_ok (r : Bool) (hF : lazyclaw25_example = some r) : lazyclaw25_example.M r := by
  unfold lazyclaw25_example at hF
  unfold lazyclaw25_example.M
  refine enter tabOk Tryd.func12 rfl (by decide) (Nat.le_of_ble_eq_true rfl) rfl rfl rfl ?_
  refine AWP.seq ?_
  refine nd (by decide) _ _ _ ?_
  (repeat (first | ((conv => whnf); (with_reducible refine And.intro ?_ ?_); (focus (first | exact Eq.refl _ | exact trivial | exact Int.natCast_nonneg _ | assumption | exact Nat.le_of_ble_eq_true (Eq.refl true) | decide))))); (conv => whnf)
  refine AWP.seq ?_
  refine nd (by decide) _ _ _ ?_
  (repeat (first | ((conv => whnf); (with_reducible refine And.intro ?_ ?_); (focus (first | exact Eq.refl _ | exact trivial | exact Int.natCast_nonneg _ | assumption | exact Nat.le_of_ble_eq_true (Eq.refl true) | decide))))); (conv => whnf)
  refine AWP.seq ?_
  refine nd (by decide) _ _ _ ?_
  (repeat (first | ((conv => whnf); (with_reducible refine And.intro ?_ ?_); (focus (first | exact Eq.refl _ | exact trivial | exact Int.natCast_nonneg _ | assumption | exact Nat.le_of_ble_eq_true (Eq.refl true) | decide))))); (conv => whnf)
  refine Exists.intro _ (And.intro (we_rows (f := TValue.cells) (wl_eq (TValue.cells_eq (TValue.mk 2 (ByteArray.mk #[]) 97 ([] : List TValue) (TExcSet.mk false ([] : List TExc)))) (wl_cons (WE.refl _) (wl_cons (WE.refl _) (wl_cons (WE.refl _) (wl_cons WE.nil (wl_cons (WE.refl _) (wl_cons WE.nil wl_nil))))))) (we_rows (f := TValue.cells) (wl_eq (TValue.cells_eq (TValue.mk 3 (ByteArray.mk #[91, 93]) 0 ([] : List TValue) (TExcSet.mk false ([] : List TExc)))) (wl_cons (WE.refl _) (wl_cons (WE.refl _) (wl_cons (WE.refl _) (wl_cons WE.nil (wl_cons (WE.refl _) (wl_cons WE.nil wl_nil))))))) (we_rows_nil (f := TValue.cells)))) ?_)
  (repeat (first | ((conv => whnf); (with_reducible refine And.intro ?_ ?_); (focus (first | exact Eq.refl _ | exact trivial | exact Int.natCast_nonneg _ | assumption | exact Nat.le_of_ble_eq_true (Eq.refl true) | decide))))); (conv => whnf)
  refine AWP.seq ?_
  obtain ⟨r1, hr1, hF⟩ := bind_some hF
  refine nd (by decide) _ _ _ ?_
  (repeat (first | ((conv => whnf); (with_reducible refine And.intro ?_ ?_); (focus (first | exact Eq.refl _ | exact trivial | exact Int.natCast_nonneg _ | assumption | exact Nat.le_of_ble_eq_true (Eq.refl true) | decide))))); (conv => whnf)
  refine Exists.intro [] ?_
  (repeat (first | ((conv => whnf); (with_reducible refine And.intro ?_ ?_); (focus (first | exact Eq.refl _ | exact trivial | exact Int.natCast_nonneg _ | assumption | exact Nat.le_of_ble_eq_true (Eq.refl true) | decide))))); (conv => whnf)
  refine CallsX.mono (CallsX.weak (rn []) (values_Text_ok (TValue.mk 3 (ByteArray.mk #[58]) 0 ([(TValue.mk 2 (ByteArray.mk #[]) 97 ([] : List TValue) (TExcSet.mk false ([] : List TExc))), (TValue.mk 3 (ByteArray.mk #[91, 93]) 0 ([] : List TValue) (TExcSet.mk false ([] : List TExc)))]) (TExcSet.mk false ([] : List TExc))) _ hr1) rfl (WS.mk (wt_cons (wd_agg (wl_cons (WE.refl _) (wl_cons (WE.refl _) (wl_cons (WE.refl _) (wl_cons (WE.refl _) (wl_cons (WE.refl _) (wl_cons WE.nil wl_nil))))))) wt_nil) wb_nil)) ?_
  rintro d b ⟨rfl, rfl⟩
  (repeat (first | ((conv => whnf); (with_reducible refine And.intro ?_ ?_); (focus (first | exact Eq.refl _ | exact trivial | exact Int.natCast_nonneg _ | assumption | exact Nat.le_of_ble_eq_true (Eq.refl true) | decide))))); (conv => whnf)
  (repeat (first | ((conv => whnf); (with_reducible refine And.intro ?_ ?_); (focus (first | exact Eq.refl _ | exact trivial | exact Int.natCast_nonneg _ | assumption | exact Nat.le_of_ble_eq_true (Eq.refl true) | decide))))); (conv => whnf)
  refine AWP.seq ?_
  refine nd (by decide) _ _ _ ?_
  (repeat (first | ((conv => whnf); (with_reducible refine And.intro ?_ ?_); (focus (first | exact Eq.refl _ | exact trivial | exact Int.natCast_nonneg _ | assumption | exact Nat.le_of_ble_eq_true (Eq.refl true) | decide))))); (conv => whnf)
  refine AWP.seq ?_
  obtain ⟨r2, hr2, hF⟩ := bind_some hF
  obtain ⟨c4, hc4, hF⟩ := bind_some hF
  obtain ⟨c6, hc6, hF⟩ := bind_some hF
  refine AWP.cutN (fun T => ∃ r, WS r T ⟨[(0, .c none (.v (.bool c6)))], []⟩) ?_ (fun T hw => ?_)
  · refine nd (by decide) _ _ _ ?_
    (repeat (first | ((conv => whnf); (with_reducible refine And.intro ?_ ?_); (focus (first | exact Eq.refl _ | exact trivial | exact Int.natCast_nonneg _ | assumption | exact Nat.le_of_ble_eq_true (Eq.refl true) | decide))))); (conv => whnf)
    refine Exists.intro [] ?_
    (repeat (first | ((conv => whnf); (with_reducible refine And.intro ?_ ?_); (focus (first | exact Eq.refl _ | exact trivial | exact Int.natCast_nonneg _ | assumption | exact Nat.le_of_ble_eq_true (Eq.refl true) | decide))))); (conv => whnf)
    refine CallsX.mono (CallsX.weak (rn []) (values_Print_ok (TValue.mk 3 (ByteArray.mk #[58]) 0 ([(TValue.mk 2 (ByteArray.mk #[]) 97 ([] : List TValue) (TExcSet.mk false ([] : List TExc))), (TValue.mk 3 (ByteArray.mk #[91, 93]) 0 ([] : List TValue) (TExcSet.mk false ([] : List TExc)))]) (TExcSet.mk false ([] : List TExc))) _ hr2) rfl (WS.mk (wt_cons (wd_agg (wl_cons (WE.refl _) (wl_cons (WE.refl _) (wl_cons (WE.refl _) (wl_cons (WE.refl _) (wl_cons (WE.refl _) (wl_cons WE.nil wl_nil))))))) wt_nil) wb_nil)) ?_
    rintro d b ⟨rfl, rfl⟩
    (repeat (first | ((conv => whnf); (with_reducible refine And.intro ?_ ?_); (focus (first | exact Eq.refl _ | exact trivial | exact Int.natCast_nonneg _ | assumption | exact Nat.le_of_ble_eq_true (Eq.refl true) | decide))))); (conv => whnf)
    (repeat (first | ((conv => whnf); (with_reducible refine And.intro ?_ ?_); (focus (first | exact Eq.refl _ | exact trivial | exact Int.natCast_nonneg _ | assumption | exact Nat.le_of_ble_eq_true (Eq.refl true) | decide))))); (conv => whnf)
    refine branchG_intro true (fun hc7 => ?_) (fun hc7 => ?_)
    · (conv => whnf)
      (repeat (first | ((conv => whnf); (with_reducible refine And.intro ?_ ?_); (focus (first | exact Eq.refl _ | exact trivial | exact Int.natCast_nonneg _ | assumption | exact Nat.le_of_ble_eq_true (Eq.refl true) | decide))))); (conv => whnf)
      refine branchG_intro true (fun hc8 => ?_) (fun hc8 => ?_)
      · (conv => whnf)
        (repeat (first | ((conv => whnf); (with_reducible refine And.intro ?_ ?_); (focus (first | exact Eq.refl _ | exact trivial | exact Int.natCast_nonneg _ | assumption | exact Nat.le_of_ble_eq_true (Eq.refl true) | decide))))); (conv => whnf)
        refine branchG_intro true (fun hc9 => ?_) (fun hc9 => ?_)
        · have hc4 := if_then (by first | assumption | exact Eq.refl _ | simp only [hc7, hc8, hc9, Bool.and_true, Bool.true_and, Bool.and_false, Bool.false_and, Bool.or_true, Bool.true_or, Bool.or_false, Bool.false_or, Bool.not_true, Bool.not_false, cond_true, cond_false, List.length_map]) hc4
          obtain ⟨r3, hr3, hc4⟩ := bind_some hc4
          (conv => whnf)
          (repeat (first | ((conv => whnf); (with_reducible refine And.intro ?_ ?_); (focus (first | exact Eq.refl _ | exact trivial | exact Int.natCast_nonneg _ | assumption | exact Nat.le_of_ble_eq_true (Eq.refl true) | decide))))); (conv => whnf)
          refine Exists.intro [] ?_
          (repeat (first | ((conv => whnf); (with_reducible refine And.intro ?_ ?_); (focus (first | exact Eq.refl _ | exact trivial | exact Int.natCast_nonneg _ | assumption | exact Nat.le_of_ble_eq_true (Eq.refl true) | decide))))); (conv => whnf)
          refine CallsX.mono (CallsX.weak (rn []) (values_Refines_ok (TValue.mk 3 (ByteArray.mk #[58]) 0 ([(TValue.mk 2 (ByteArray.mk #[]) 97 ([] : List TValue) (TExcSet.mk false ([] : List TExc))), (TValue.mk 3 (ByteArray.mk #[91, 93]) 0 ([] : List TValue) (TExcSet.mk false ([] : List TExc)))]) (TExcSet.mk false ([] : List TExc))) (TValue.mk 5 (ByteArray.mk #[]) 0 ([] : List TValue) (TExcSet.mk true ([] : List TExc))) _ hr3) rfl (WS.mk (wt_cons (wd_agg (wl_cons (WE.refl _) (wl_cons (WE.refl _) (wl_cons (WE.refl _) (wl_cons (WE.refl _) (wl_cons (WE.refl _) (wl_cons WE.nil wl_nil))))))) (wt_cons (wd_agg (wl_cons (WE.refl _) (wl_cons (WE.refl _) (wl_cons (WE.refl _) (wl_cons WE.nil (wl_cons (WE.refl _) (wl_cons WE.nil wl_nil))))))) wt_nil)) wb_nil)) ?_
          rintro d b ⟨rfl, rfl⟩
          (repeat (first | ((conv => whnf); (with_reducible refine And.intro ?_ ?_); (focus (first | exact Eq.refl _ | exact trivial | exact Int.natCast_nonneg _ | assumption | exact Nat.le_of_ble_eq_true (Eq.refl true) | decide))))); (conv => whnf)
          obtain rfl := some_eq hc4
          (repeat (first | ((conv => whnf); (with_reducible refine And.intro ?_ ?_); (focus (first | exact Eq.refl _ | exact trivial | exact Int.natCast_nonneg _ | assumption | exact Nat.le_of_ble_eq_true (Eq.refl true) | decide))))); (conv => whnf)
          refine branchG_intro true (fun hc10 => ?_) (fun hc10 => ?_)
          · have hc6 := if_then (by first | assumption | exact Eq.refl _ | simp only [hc7, hc8, hc9, hc10, Bool.and_true, Bool.true_and, Bool.and_false, Bool.false_and, Bool.or_true, Bool.true_or, Bool.or_false, Bool.false_or, Bool.not_true, Bool.not_false, cond_true, cond_false, List.length_map]) hc6
            obtain ⟨r5, hr5, hc6⟩ := bind_some hc6
            (conv => whnf)
            (repeat (first | ((conv => whnf); (with_reducible refine And.intro ?_ ?_); (focus (first | exact Eq.refl _ | exact trivial | exact Int.natCast_nonneg _ | assumption | exact Nat.le_of_ble_eq_true (Eq.refl true) | decide))))); (conv => whnf)
            refine Exists.intro [] ?_
            (repeat (first | ((conv => whnf); (with_reducible refine And.intro ?_ ?_); (focus (first | exact Eq.refl _ | exact trivial | exact Int.natCast_nonneg _ | assumption | exact Nat.le_of_ble_eq_true (Eq.refl true) | decide))))); (conv => whnf)
            refine CallsX.mono (CallsX.weak (rn []) (values_Refines_ok (TValue.mk 5 (ByteArray.mk #[]) 0 ([] : List TValue) (TExcSet.mk true ([] : List TExc))) (TValue.mk 3 (ByteArray.mk #[58]) 0 ([(TValue.mk 2 (ByteArray.mk #[]) 97 ([] : List TValue) (TExcSet.mk false ([] : List TExc))), (TValue.mk 3 (ByteArray.mk #[91, 93]) 0 ([] : List TValue) (TExcSet.mk false ([] : List TExc)))]) (TExcSet.mk false ([] : List TExc))) _ hr5) rfl (WS.mk (wt_cons (wd_agg (wl_cons (WE.refl _) (wl_cons (WE.refl _) (wl_cons (WE.refl _) (wl_cons WE.nil (wl_cons (WE.refl _) (wl_cons WE.nil wl_nil))))))) (wt_cons (wd_agg (wl_cons (WE.refl _) (wl_cons (WE.refl _) (wl_cons (WE.refl _) (wl_cons (WE.refl _) (wl_cons (WE.refl _) (wl_cons WE.nil wl_nil))))))) wt_nil)) wb_nil)) ?_
            rintro d b ⟨rfl, rfl⟩
            (repeat (first | ((conv => whnf); (with_reducible refine And.intro ?_ ?_); (focus (first | exact Eq.refl _ | exact trivial | exact Int.natCast_nonneg _ | assumption | exact Nat.le_of_ble_eq_true (Eq.refl true) | decide))))); (conv => whnf)
            obtain rfl := some_eq hc6
            (repeat (first | ((conv => whnf); (with_reducible refine And.intro ?_ ?_); (focus (first | exact Eq.refl _ | exact trivial | exact Int.natCast_nonneg _ | assumption | exact Nat.le_of_ble_eq_true (Eq.refl true) | decide))))); (conv => whnf)
            exact Exists.intro (rn []) (WS.mk (wt_cons (wd_c (we_b (by first | exact Eq.refl _ | simp only [hc7, hc8, hc9, hc10, Bool.and_true, Bool.true_and, Bool.and_false, Bool.false_and, Bool.or_true, Bool.true_or, Bool.or_false, Bool.false_or, Bool.not_true, Bool.not_false, cond_true, cond_false, List.length_map]))) wt_nil) wb_nil)
          · have hc6 := if_else (by first | assumption | exact Eq.refl _ | simp only [hc7, hc8, hc9, hc10, Bool.and_true, Bool.true_and, Bool.and_false, Bool.false_and, Bool.or_true, Bool.true_or, Bool.or_false, Bool.false_or, Bool.not_true, Bool.not_false, cond_true, cond_false, List.length_map]) hc6
            (conv => whnf)
            obtain rfl := some_eq hc6
            (repeat (first | ((conv => whnf); (with_reducible refine And.intro ?_ ?_); (focus (first | exact Eq.refl _ | exact trivial | exact Int.natCast_nonneg _ | assumption | exact Nat.le_of_ble_eq_true (Eq.refl true) | decide))))); (conv => whnf)
            exact Exists.intro (rn []) (WS.mk (wt_cons (wd_c (we_b (by first | exact Eq.refl _ | simp only [hc7, hc8, hc9, hc10, Bool.and_true, Bool.true_and, Bool.and_false, Bool.false_and, Bool.or_true, Bool.true_or, Bool.or_false, Bool.false_or, Bool.not_true, Bool.not_false, cond_true, cond_false, List.length_map]))) wt_nil) wb_nil)
        · have hc4 := if_else (by first | assumption | exact Eq.refl _ | simp only [hc7, hc8, hc9, Bool.and_true, Bool.true_and, Bool.and_false, Bool.false_and, Bool.or_true, Bool.true_or, Bool.or_false, Bool.false_or, Bool.not_true, Bool.not_false, cond_true, cond_false, List.length_map]) hc4
          (conv => whnf)
          obtain rfl := some_eq hc4
          have hc6 := if_else (by first | assumption | exact Eq.refl _ | simp only [hc7, hc8, hc9, Bool.and_true, Bool.true_and, Bool.and_false, Bool.false_and, Bool.or_true, Bool.true_or, Bool.or_false, Bool.false_or, Bool.not_true, Bool.not_false, cond_true, cond_false, List.length_map]) hc6
          obtain rfl := some_eq hc6
          (repeat (first | ((conv => whnf); (with_reducible refine And.intro ?_ ?_); (focus (first | exact Eq.refl _ | exact trivial | exact Int.natCast_nonneg _ | assumption | exact Nat.le_of_ble_eq_true (Eq.refl true) | decide))))); (conv => whnf)
          exact Exists.intro (rn []) (WS.mk (wt_cons (wd_c (we_b (by first | exact Eq.refl _ | simp only [hc7, hc8, hc9, Bool.and_true, Bool.true_and, Bool.and_false, Bool.false_and, Bool.or_true, Bool.true_or, Bool.or_false, Bool.false_or, Bool.not_true, Bool.not_false, cond_true, cond_false, List.length_map]))) wt_nil) wb_nil)
      · (conv => whnf)
        have hc4 := if_else (by first | assumption | exact Eq.refl _ | simp only [hc7, hc8, Bool.and_true, Bool.true_and, Bool.and_false, Bool.false_and, Bool.or_true, Bool.true_or, Bool.or_false, Bool.false_or, Bool.not_true, Bool.not_false, cond_true, cond_false, List.length_map]) hc4
        obtain rfl := some_eq hc4
        have hc6 := if_else (by first | assumption | exact Eq.refl _ | simp only [hc7, hc8, Bool.and_true, Bool.true_and, Bool.and_false, Bool.false_and, Bool.or_true, Bool.true_or, Bool.or_false, Bool.false_or, Bool.not_true, Bool.not_false, cond_true, cond_false, List.length_map]) hc6
        obtain rfl := some_eq hc6
        (repeat (first | ((conv => whnf); (with_reducible refine And.intro ?_ ?_); (focus (first | exact Eq.refl _ | exact trivial | exact Int.natCast_nonneg _ | assumption | exact Nat.le_of_ble_eq_true (Eq.refl true) | decide))))); (conv => whnf)
        exact Exists.intro (rn []) (WS.mk (wt_cons (wd_c (we_b (by first | exact Eq.refl _ | simp only [hc7, hc8, Bool.and_true, Bool.true_and, Bool.and_false, Bool.false_and, Bool.or_true, Bool.true_or, Bool.or_false, Bool.false_or, Bool.not_true, Bool.not_false, cond_true, cond_false, List.length_map]))) wt_nil) wb_nil)
    · (conv => whnf)
      have hc4 := if_else (by first | assumption | exact Eq.refl _ | simp only [hc7, Bool.and_true, Bool.true_and, Bool.and_false, Bool.false_and, Bool.or_true, Bool.true_or, Bool.or_false, Bool.false_or, Bool.not_true, Bool.not_false, cond_true, cond_false, List.length_map]) hc4
      obtain rfl := some_eq hc4
      have hc6 := if_else (by first | assumption | exact Eq.refl _ | simp only [hc7, Bool.and_true, Bool.true_and, Bool.and_false, Bool.false_and, Bool.or_true, Bool.true_or, Bool.or_false, Bool.false_or, Bool.not_true, Bool.not_false, cond_true, cond_false, List.length_map]) hc6
      obtain rfl := some_eq hc6
      (repeat (first | ((conv => whnf); (with_reducible refine And.intro ?_ ?_); (focus (first | exact Eq.refl _ | exact trivial | exact Int.natCast_nonneg _ | assumption | exact Nat.le_of_ble_eq_true (Eq.refl true) | decide))))); (conv => whnf)
      exact Exists.intro (rn []) (WS.mk (wt_cons (wd_c (we_b (by first | exact Eq.refl _ | simp only [hc7, Bool.and_true, Bool.true_and, Bool.and_false, Bool.false_and, Bool.or_true, Bool.true_or, Bool.or_false, Bool.false_or, Bool.not_true, Bool.not_false, cond_true, cond_false, List.length_map]))) wt_nil) wb_nil)
  obtain ⟨r0, hw⟩ := hw
  (conv => whnf)
  refine AWP.weak r0 hw ?_
  obtain rfl := some_eq hF
  refine nd (by decide) _ _ _ ?_
  (repeat (first | ((conv => whnf); (with_reducible refine And.intro ?_ ?_); (focus (first | exact Eq.refl _ | exact trivial | exact Int.natCast_nonneg _ | assumption | exact Nat.le_of_ble_eq_true (Eq.refl true) | decide))))); (conv => whnf)
  exact Exists.intro (rn []) (WS.mk (wt_cons (wd_c (WE.refl _)) wt_nil) wb_nil)
end Go.Proofs.YtafniolcakiljaaDoor

set_option linter.unusedVariables false
set_option linter.unusedSimpArgs false
set_option maxRecDepth 100000
set_option maxHeartbeats 4000000
namespace Go.Proofs.YtafniolcakiljaaDoor
open Go Go.Am
def lazycref25_List_l1 (l_4 : (List TValue)) (v_1_0_s : TValue) : Option ((List TValue) × Bool) :=
  if (((v_1_0_s.fOp == 3) && (v_1_0_s.fName.toList == (ByteArray.mk #[58]).toList)) && (((v_1_0_s.fKids.length : Nat) : Int) == 2)) = true then
  (ixI v_1_0_s.fKids 0) >>= fun x42 =>
  guardP ((l_4.length + ([x42]).length) * 88 ≤ 140737488355328) >>= fun _ =>
  (ixI v_1_0_s.fKids 1) >>= fun x44 =>
  lazycref25_List_l1 (l_4 ++ ([x42])) x44
  else
  if (((v_1_0_s.fOp != 3) || (!(v_1_0_s.fName.toList == (ByteArray.mk #[91, 93]).toList))) || (((v_1_0_s.fKids.length : Nat) : Int) != 0)) = true then
  some (([] : List TValue), false)
  else
  some (l_4, true)
  partial_fixpoint
def lazycref25_List_l1.M (l_4 : (List TValue)) (v_1_0_s : TValue) (r : (List TValue) × Bool) : Prop :=
  AWL Tryd.prog 46 (Code.sub (bodyOf Tryd.f17) [1, 1, 0, 0, 0]) (Code.cont Tryd.prog 46 (bodyOf Tryd.f17) [1, 1, 0, 0] (endK tab Tryd.f17.results [] (WRes (.tup [.c (.sl (r.1.map TValue.cells)), .c (.v (.bool r.2))]) []))) ⟨[(1, .ptr 1 0), (4, .c (some (4, 28)) (.sl (l_4.map TValue.cells)))], [(1, [(none, .v (.int .i64 v_1_0_s.fOp)), (none, .v (.string v_1_0_s.fName)), (none, .v (.int .i64 v_1_0_s.fN)), (none, .sl (v_1_0_s.fKids.map TValue.cells)), (none, .v (.bool v_1_0_s.fSet.fAll)), (none, .sl (v_1_0_s.fSet.fList.map TExc.cells))])]⟩
theorem lazycref25_List_l1_ok (l_4 : (List TValue)) (v_1_0_s : TValue) : ∀ r, lazycref25_List_l1 l_4 v_1_0_s = some r → lazycref25_List_l1.M l_4 v_1_0_s r := by
  refine lazycref25_List_l1.partial_correctness (fun l_4 v_1_0_s r => lazycref25_List_l1.M l_4 v_1_0_s r) ?_ l_4 v_1_0_s
  intro lazycref25_List_l1' ih0_lazycref25_List_l1 l_4 v_1_0_s r hF
  have ih_lazycref25_List_l1 := fun (l_4 : (List TValue)) (v_1_0_s : TValue) => ih0_lazycref25_List_l1 l_4 v_1_0_s
  clear ih0_lazycref25_List_l1
  unfold lazycref25_List_l1.M
  refine AWL.step ?_
  refine AWP.seq ?_
  refine AWP.seq ?_
  refine AWP.cutN (fun T => ∃ r, WS r T ⟨[(1, .ptr 1 0), (4, .c (some (4, 28)) (.sl (l_4.map TValue.cells))), (19, .c none (.v (.bool (((v_1_0_s.fOp == 3) && (v_1_0_s.fName.toList == (ByteArray.mk #[58]).toList)) && (((v_1_0_s.fKids.length : Nat) : Int) == 2)))))], [(1, [(none, .v (.int .i64 v_1_0_s.fOp)), (none, .v (.string v_1_0_s.fName)), (none, .v (.int .i64 v_1_0_s.fN)), (none, .sl (v_1_0_s.fKids.map TValue.cells)), (none, .v (.bool v_1_0_s.fSet.fAll)), (none, .sl (v_1_0_s.fSet.fList.map TExc.cells))])]⟩) ?_ (fun T hw => ?_)
  · refine nd (by decide) _ _ _ ?_
    (repeat (first | ((conv => whnf); (with_reducible refine And.intro ?_ ?_); (focus (first | exact Eq.refl _ | exact trivial | exact Int.natCast_nonneg _ | assumption | exact Nat.le_of_ble_eq_true (Eq.refl true) | decide))))); (conv => whnf)
    refine branchG_intro true (fun hc39 => ?_) (fun hc39 => ?_)
    · (conv => whnf)
      (repeat (first | ((conv => whnf); (with_reducible refine And.intro ?_ ?_); (focus (first | exact Eq.refl _ | exact trivial | exact Int.natCast_nonneg _ | assumption | exact Nat.le_of_ble_eq_true (Eq.refl true) | decide))))); (conv => whnf)
      refine branchG_intro true (fun hc40 => ?_) (fun hc40 => ?_)
      · (conv => whnf)
        (repeat (first | ((conv => whnf); (with_reducible refine And.intro ?_ ?_); (focus (first | exact Eq.refl _ | exact trivial | exact Int.natCast_nonneg _ | assumption | exact Nat.le_of_ble_eq_true (Eq.refl true) | decide))))); (conv => whnf)
        intro hlen38
        (try rw [List.length_map] at hlen38)
        (try rw [List.length_map])
        (repeat (first | ((conv => whnf); (with_reducible refine And.intro ?_ ?_); (focus (first | exact Eq.refl _ | exact trivial | exact Int.natCast_nonneg _ | assumption | exact Nat.le_of_ble_eq_true (Eq.refl true) | decide))))); (conv => whnf)
        exact Exists.intro (rn [(4, 4)]) (WS.mk (wt_cons wd_ptr (wt_cons (wd_own rfl (WE.refl _)) (wt_cons (wd_c (we_b (by first | exact Eq.refl _ | simp only [hc39, hc40, Bool.and_true, Bool.true_and, Bool.and_false, Bool.false_and, Bool.or_true, Bool.true_or, Bool.or_false, Bool.false_or, Bool.not_true, Bool.not_false, cond_true, cond_false, List.length_map]))) wt_nil))) (wb_cons rfl (wc_c (WE.refl _) (wc_c (WE.refl _) (wc_c (WE.refl _) (wc_c (WE.refl _) (wc_c (WE.refl _) (wc_c (WE.refl _) wc_nil)))))) wb_nil))
      · (conv => whnf)
        (repeat (first | ((conv => whnf); (with_reducible refine And.intro ?_ ?_); (focus (first | exact Eq.refl _ | exact trivial | exact Int.natCast_nonneg _ | assumption | exact Nat.le_of_ble_eq_true (Eq.refl true) | decide))))); (conv => whnf)
        exact Exists.intro (rn [(4, 4)]) (WS.mk (wt_cons wd_ptr (wt_cons (wd_own rfl (WE.refl _)) (wt_cons (wd_c (we_b (by first | exact Eq.refl _ | simp only [hc39, hc40, Bool.and_true, Bool.true_and, Bool.and_false, Bool.false_and, Bool.or_true, Bool.true_or, Bool.or_false, Bool.false_or, Bool.not_true, Bool.not_false, cond_true, cond_false, List.length_map]))) wt_nil))) (wb_cons rfl (wc_c (WE.refl _) (wc_c (WE.refl _) (wc_c (WE.refl _) (wc_c (WE.refl _) (wc_c (WE.refl _) (wc_c (WE.refl _) wc_nil)))))) wb_nil))
    · (conv => whnf)
      (repeat (first | ((conv => whnf); (with_reducible refine And.intro ?_ ?_); (focus (first | exact Eq.refl _ | exact trivial | exact Int.natCast_nonneg _ | assumption | exact Nat.le_of_ble_eq_true (Eq.refl true) | decide))))); (conv => whnf)
      exact Exists.intro (rn [(4, 4)]) (WS.mk (wt_cons wd_ptr (wt_cons (wd_own rfl (WE.refl _)) (wt_cons (wd_c (we_b (by first | exact Eq.refl _ | simp only [hc39, Bool.and_true, Bool.true_and, Bool.and_false, Bool.false_and, Bool.or_true, Bool.true_or, Bool.or_false, Bool.false_or, Bool.not_true, Bool.not_false, cond_true, cond_false, List.length_map]))) wt_nil))) (wb_cons rfl (wc_c (WE.refl _) (wc_c (WE.refl _) (wc_c (WE.refl _) (wc_c (WE.refl _) (wc_c (WE.refl _) (wc_c (WE.refl _) wc_nil)))))) wb_nil))
  obtain ⟨r0, hw⟩ := hw
  (conv => whnf)
  refine AWP.weak r0 hw ?_
  refine nd (by decide) _ _ _ ?_
  (conv => whnf)
  refine branch_hF hF (fun hc41 hF => ?_) (fun hc41 hF => ?_)
  · refine nd (by decide) _ _ _ ?_
    (conv => whnf)
    refine AWP.block ?_
    refine AWP.seq ?_
    obtain ⟨x42, hx420, hx42, hF⟩ := ix_some hF
    obtain ⟨hg43, hF⟩ := guard_some hF
    refine nd (by decide) _ _ _ ?_
    (repeat (first | ((conv => whnf); (with_reducible refine And.intro ?_ ?_); (focus (first | exact Eq.refl _ | exact trivial | exact Int.natCast_nonneg _ | assumption | exact Nat.le_of_ble_eq_true (Eq.refl true) | decide))) | ((conv => whnf); rw [map_getI (TValue.cells_eq x42) hx42]))); (conv => whnf)
    (repeat (first | ((conv => whnf); (with_reducible refine And.intro ?_ ?_); (focus (first | exact Eq.refl _ | exact trivial | exact Int.natCast_nonneg _ | assumption | exact Nat.le_of_ble_eq_true (Eq.refl true) | decide))))); (conv => whnf)
    refine Exists.intro _ (And.intro (we_rows (f := TValue.cells) (wl_eq (TValue.cells_eq x42) (wl_cons (WE.refl _) (wl_cons (WE.refl _) (wl_cons (WE.refl _) (wl_cons (WE.refl _) (wl_cons (WE.refl _) (wl_cons (WE.refl _) wl_nil))))))) (we_rows_nil (f := TValue.cells))) ?_)
    (repeat (first | ((conv => whnf); (with_reducible refine And.intro ?_ ?_); (focus (first | exact Eq.refl _ | exact trivial | exact Int.natCast_nonneg _ | assumption | exact Nat.le_of_ble_eq_true (Eq.refl true) | decide))))); (conv => whnf)
    refine And.intro (by first | exact rows_map _ (fun x => TValue.cells_len x) | exact rows_nil) (And.intro (by first | exact rows_map _ (fun x => TValue.cells_len x) | exact rows_nil) (And.intro (by have h := hg43; simp only [List.length_map, List.length_append, List.length_cons, List.length_nil, Nat.zero_add] at h ⊢; first | exact h | (unfold maxLen; omega) | omega) (And.intro (by have h := hg43; simp only [List.length_map, List.length_append, List.length_cons, List.length_nil, Nat.zero_add] at h ⊢; first | exact h | (unfold maxLen; omega) | omega) (Exists.intro _ (And.intro (WE.refl _) ?_)))))
    rw [← List.map_append]
    (repeat (first | ((conv => whnf); (with_reducible refine And.intro ?_ ?_); (focus (first | exact Eq.refl _ | exact trivial | exact Int.natCast_nonneg _ | assumption | exact Nat.le_of_ble_eq_true (Eq.refl true) | decide))))); (conv => whnf)
    obtain ⟨x44, hx440, hx44, hF⟩ := ix_some hF
    refine nd (by decide) _ _ _ ?_
    (repeat (first | ((conv => whnf); (with_reducible refine And.intro ?_ ?_); (focus (first | exact Eq.refl _ | exact trivial | exact Int.natCast_nonneg _ | assumption | exact Nat.le_of_ble_eq_true (Eq.refl true) | decide))) | ((conv => whnf); rw [map_getI (TValue.cells_eq x44) hx44]))); (conv => whnf)
    (repeat (first | ((conv => whnf); (with_reducible refine And.intro ?_ ?_); (focus (first | exact Eq.refl _ | exact trivial | exact Int.natCast_nonneg _ | assumption | exact Nat.le_of_ble_eq_true (Eq.refl true) | decide))))); (conv => whnf)
    refine AWL.weak (rn [(26, 4)]) ?_ (ih_lazycref25_List_l1 (l_4 ++ ([x42])) x44 _ hF)
    exact (WS.mk (wt_cons wd_ptr (wt_cons (wd_own rfl (WE.refl _)) wt_nil)) (wb_cons rfl (wc_c (WE.refl _) (wc_c (WE.refl _) (wc_c (WE.refl _) (wc_c (WE.refl _) (wc_c (WE.refl _) (wc_c (WE.refl _) wc_nil)))))) wb_nil))
  · refine nd (by decide) _ _ _ ?_
    (conv => whnf)
    refine AWP.seq ?_
    refine AWP.seq ?_
    refine AWP.cutN (fun T => ∃ r, WS r T ⟨[(4, .c (some (4, 28)) (.sl (l_4.map TValue.cells))), (44, .c none (.v (.bool (((v_1_0_s.fOp != 3) || (!(v_1_0_s.fName.toList == (ByteArray.mk #[91, 93]).toList))) || (((v_1_0_s.fKids.length : Nat) : Int) != 0)))))], []⟩) ?_ (fun T hw => ?_)
    · refine nd (by decide) _ _ _ ?_
      (repeat (first | ((conv => whnf); (with_reducible refine And.intro ?_ ?_); (focus (first | exact Eq.refl _ | exact trivial | exact Int.natCast_nonneg _ | assumption | exact Nat.le_of_ble_eq_true (Eq.refl true) | decide))))); (conv => whnf)
      refine branchG_intro false (fun hc46 => ?_) (fun hc46 => ?_)
      · (conv => whnf)
        (repeat (first | ((conv => whnf); (with_reducible refine And.intro ?_ ?_); (focus (first | exact Eq.refl _ | exact trivial | exact Int.natCast_nonneg _ | assumption | exact Nat.le_of_ble_eq_true (Eq.refl true) | decide))))); (conv => whnf)
        exact Exists.intro (rn [(4, 4)]) (WS.mk (wt_cons (wd_own rfl (WE.refl _)) (wt_cons (wd_c (we_b (by first | exact Eq.refl _ | simp only [hc46, Bool.and_true, Bool.true_and, Bool.and_false, Bool.false_and, Bool.or_true, Bool.true_or, Bool.or_false, Bool.false_or, Bool.not_true, Bool.not_false, cond_true, cond_false, List.length_map]))) wt_nil)) wb_nil)
      · (conv => whnf)
        (repeat (first | ((conv => whnf); (with_reducible refine And.intro ?_ ?_); (focus (first | exact Eq.refl _ | exact trivial | exact Int.natCast_nonneg _ | assumption | exact Nat.le_of_ble_eq_true (Eq.refl true) | decide))))); (conv => whnf)
        refine branchG_intro false (fun hc47 => ?_) (fun hc47 => ?_)
        · (conv => whnf)
          (repeat (first | ((conv => whnf); (with_reducible refine And.intro ?_ ?_); (focus (first | exact Eq.refl _ | exact trivial | exact Int.natCast_nonneg _ | assumption | exact Nat.le_of_ble_eq_true (Eq.refl true) | decide))))); (conv => whnf)
          exact Exists.intro (rn [(4, 4)]) (WS.mk (wt_cons (wd_own rfl (WE.refl _)) (wt_cons (wd_c (we_b (by first | exact Eq.refl _ | simp only [hc46, hc47, Bool.and_true, Bool.true_and, Bool.and_false, Bool.false_and, Bool.or_true, Bool.true_or, Bool.or_false, Bool.false_or, Bool.not_true, Bool.not_false, cond_true, cond_false, List.length_map]))) wt_nil)) wb_nil)
        · (conv => whnf)
          (repeat (first | ((conv => whnf); (with_reducible refine And.intro ?_ ?_); (focus (first | exact Eq.refl _ | exact trivial | exact Int.natCast_nonneg _ | assumption | exact Nat.le_of_ble_eq_true (Eq.refl true) | decide))))); (conv => whnf)
          intro hlen45
          (try rw [List.length_map] at hlen45)
          (try rw [List.length_map])
          (repeat (first | ((conv => whnf); (with_reducible refine And.intro ?_ ?_); (focus (first | exact Eq.refl _ | exact trivial | exact Int.natCast_nonneg _ | assumption | exact Nat.le_of_ble_eq_true (Eq.refl true) | decide))))); (conv => whnf)
          exact Exists.intro (rn [(4, 4)]) (WS.mk (wt_cons (wd_own rfl (WE.refl _)) (wt_cons (wd_c (we_b (by first | exact Eq.refl _ | simp only [hc46, hc47, Bool.and_true, Bool.true_and, Bool.and_false, Bool.false_and, Bool.or_true, Bool.true_or, Bool.or_false, Bool.false_or, Bool.not_true, Bool.not_false, cond_true, cond_false, List.length_map]))) wt_nil)) wb_nil)
    obtain ⟨r0, hw⟩ := hw
    (conv => whnf)
    refine AWP.weak r0 hw ?_
    refine nd (by decide) _ _ _ ?_
    (conv => whnf)
    refine branch_hF hF (fun hc48 hF => ?_) (fun hc48 hF => ?_)
    · refine AWP.seq ?_
      refine nd (by decide) _ _ _ ?_
      (repeat (first | ((conv => whnf); (with_reducible refine And.intro ?_ ?_); (focus (first | exact Eq.refl _ | exact trivial | exact Int.natCast_nonneg _ | assumption | exact Nat.le_of_ble_eq_true (Eq.refl true) | decide))))); (conv => whnf)
      obtain rfl := some_eq hF
      refine nd (by decide) _ _ _ ?_
      (repeat (first | ((conv => whnf); (with_reducible refine And.intro ?_ ?_); (focus (first | exact Eq.refl _ | exact trivial | exact Int.natCast_nonneg _ | assumption | exact Nat.le_of_ble_eq_true (Eq.refl true) | decide))))); (conv => whnf)
      exact Exists.intro (rn []) (WS.mk (wt_cons (wd_tup (wx_c WE.nil (wx_c (WE.refl _) wx_nil))) wt_nil) wb_nil)
    · refine nd (by decide) _ _ _ ?_
      (conv => whnf)
      refine AWP.seq ?_
      refine nd (by decide) _ _ _ ?_
      (repeat (first | ((conv => whnf); (with_reducible refine And.intro ?_ ?_); (focus (first | exact Eq.refl _ | exact trivial | exact Int.natCast_nonneg _ | assumption | exact Nat.le_of_ble_eq_true (Eq.refl true) | decide))))); (conv => whnf)
      obtain rfl := some_eq hF
      refine nd (by decide) _ _ _ ?_
      (repeat (first | ((conv => whnf); (with_reducible refine And.intro ?_ ?_); (focus (first | exact Eq.refl _ | exact trivial | exact Int.natCast_nonneg _ | assumption | exact Nat.le_of_ble_eq_true (Eq.refl true) | decide))))); (conv => whnf)
      exact Exists.intro (rn []) (WS.mk (wt_cons (wd_tup (wx_c (WE.refl _) (wx_c (WE.refl _) wx_nil))) wt_nil) wb_nil)
end Go.Proofs.YtafniolcakiljaaDoor

set_option linter.unusedVariables false
set_option linter.unusedSimpArgs false
set_option maxRecDepth 100000
set_option maxHeartbeats 4000000
namespace Go.Proofs.YtafniolcakiljaaDoor
open Go Go.Am
def lazycref25_List (v : TValue) : Option ((List TValue) × Bool) :=
  lazycref25_List_l1 ([] : List TValue) v
def lazycref25_List.M (v : TValue) (r : (List TValue) × Bool) : Prop :=
  CallsX Tryd.prog 17 [.agg [.v (.int .i64 v.fOp), .v (.string v.fName), .v (.int .i64 v.fN), .sl (v.fKids.map TValue.cells), .v (.bool v.fSet.fAll), .sl (v.fSet.fList.map TExc.cells)]] [] (fun d b => d = .tup [.c (.sl (r.1.map TValue.cells)), .c (.v (.bool r.2))] ∧ b = [])
theorem lazycref25_List_ok (v : TValue) (r : (List TValue) × Bool) (hF : lazycref25_List v = some r) : lazycref25_List.M v r := by
  unfold lazycref25_List at hF
  unfold lazycref25_List.M
  refine enter tabOk Tryd.func17 rfl (by decide) (Nat.le_of_ble_eq_true rfl) rfl rfl rfl ?_
  refine AWP.seq ?_
  refine nd (by decide) _ _ _ ?_
  (repeat (first | ((conv => whnf); (with_reducible refine And.intro ?_ ?_); (focus (first | exact Eq.refl _ | exact trivial | exact Int.natCast_nonneg _ | assumption | exact Nat.le_of_ble_eq_true (Eq.refl true) | decide))))); (conv => whnf)
  refine AWP.seq ?_
  refine nd (by decide) _ _ _ ?_
  (repeat (first | ((conv => whnf); (with_reducible refine And.intro ?_ ?_); (focus (first | exact Eq.refl _ | exact trivial | exact Int.natCast_nonneg _ | assumption | exact Nat.le_of_ble_eq_true (Eq.refl true) | decide))))); (conv => whnf)
  refine Exists.intro _ (And.intro (we_rows_nil (f := TValue.cells)) ?_)
  (repeat (first | ((conv => whnf); (with_reducible refine And.intro ?_ ?_); (focus (first | exact Eq.refl _ | exact trivial | exact Int.natCast_nonneg _ | assumption | exact Nat.le_of_ble_eq_true (Eq.refl true) | decide))))); (conv => whnf)
  refine AWP.seq ?_
  refine AWP.block ?_
  refine AWP.loop ?_
  refine AWL.weak (rn [(5, 4)]) ?_ (lazycref25_List_l1_ok ([] : List TValue) v _ hF)
  exact (WS.mk (wt_cons wd_ptr (wt_cons (wd_own rfl (WE.refl _)) wt_nil)) (wb_cons rfl (wc_c (WE.refl _) (wc_c (WE.refl _) (wc_c (WE.refl _) (wc_c (WE.refl _) (wc_c (WE.refl _) (wc_c (WE.refl _) wc_nil)))))) wb_nil))
end Go.Proofs.YtafniolcakiljaaDoor

set_option linter.unusedVariables false
set_option linter.unusedSimpArgs false
set_option maxRecDepth 100000
set_option maxHeartbeats 4000000
namespace Go.Proofs.YtafniolcakiljaaDoor
open Go Go.Am
def lazycref25_Text_l1 (r1 : ((List TValue) × Bool)) (b_6 : (List Int)) (i_7 : Nat) (i_7_s_ : (List TValue)) : Option (ByteArray × Bool) :=
  (match i_7_s_ with
  | x95 :: xs96 =>
  if (((x95.fOp != 2) || (decide (x95.fN < 0))) || (decide (x95.fN > 255))) = true then
  some ((ByteArray.mk #[]), false)
  else
  guardP ((b_6.length + ([(IntKind.u8.wrap x95.fN)]).length) * 1 ≤ 140737488355328) >>= fun _ =>
  lazycref25_Text_l1 r1 (b_6 ++ ([(IntKind.u8.wrap x95.fN)])) (i_7 + 1) xs96
  | [] =>
  some (bytesOf b_6, r1.2))
  partial_fixpoint
def lazycref25_Text_l1.M (r1 : ((List TValue) × Bool)) (b_6 : (List Int)) (i_7 : Nat) (i_7_s_ : (List TValue)) (r : ByteArray × Bool) : Prop :=
  ∀ pre_i_7 : List TValue, r1.1 = pre_i_7 ++ i_7_s_ → i_7 = pre_i_7.length → AWL Tryd.prog 54 (Code.sub (bodyOf Tryd.f20) [1, 1, 1, 0, 1, 0, 0]) (Code.cont Tryd.prog 54 (bodyOf Tryd.f20) [1, 1, 1, 0, 1, 0] (endK tab Tryd.f20.results [] (WRes (.tup [.c (.v (.string r.1)), .c (.v (.bool r.2))]) []))) ⟨[(4, .c none (.sl (r1.1.map TValue.cells))), (5, .c none (.v (.bool r1.2))), (6, .c (some (6, 5)) (.sl (b_6.map c_I_u8))), (7, .c none (.v (.int .i64 ((i_7 : Nat) : Int))))], []⟩
theorem lazycref25_Text_l1_ok (r1 : ((List TValue) × Bool)) (b_6 : (List Int)) (i_7 : Nat) (i_7_s_ : (List TValue)) : ∀ r, lazycref25_Text_l1 r1 b_6 i_7 i_7_s_ = some r → lazycref25_Text_l1.M r1 b_6 i_7 i_7_s_ r := by
  refine lazycref25_Text_l1.partial_correctness r1 (fun b_6 i_7 i_7_s_ r => lazycref25_Text_l1.M r1 b_6 i_7 i_7_s_ r) ?_ b_6 i_7 i_7_s_
  intro lazycref25_Text_l1' ih0_lazycref25_Text_l1 b_6 i_7 i_7_s_ r hF
  have ih_lazycref25_Text_l1 := fun (_r1 : ((List TValue) × Bool)) (b_6 : (List Int)) (i_7 : Nat) (i_7_s_ : (List TValue)) => ih0_lazycref25_Text_l1 b_6 i_7 i_7_s_
  clear ih0_lazycref25_Text_l1
  unfold lazycref25_Text_l1.M
  intro pre_i_7 hs_i_7 hk_i_7
  refine AWL.step ?_
  refine AWP.seq ?_
  refine AWP.seq ?_
  refine nd (by decide) _ _ _ ?_
  (repeat (first | ((conv => whnf); (with_reducible refine And.intro ?_ ?_); (focus (first | exact Eq.refl _ | exact trivial | exact Int.natCast_nonneg _ | assumption | exact Nat.le_of_ble_eq_true (Eq.refl true) | decide))))); (conv => whnf)
  intro hlen94
  (try rw [List.length_map] at hlen94)
  (try rw [List.length_map])
  (repeat (first | ((conv => whnf); (with_reducible refine And.intro ?_ ?_); (focus (first | exact Eq.refl _ | exact trivial | exact Int.natCast_nonneg _ | assumption | exact Nat.le_of_ble_eq_true (Eq.refl true) | decide))))); (conv => whnf)
  refine nd (by decide) _ _ _ ?_
  (conv => whnf)
  refine branch_list hs_i_7 hk_i_7 (fun x95 xs96 hp97 hx97 hl97 => ?_) (fun hp97 => ?_)
  · subst hp97
    refine nd (by decide) _ _ _ ?_
    (conv => whnf)
    refine AWP.seq ?_
    refine AWP.block ?_
    refine AWP.seq ?_
    refine AWP.seq ?_
    refine AWP.cutN (fun T => ∃ r, WS r T ⟨[(4, .c none (.sl (r1.1.map TValue.cells))), (5, .c none (.v (.bool r1.2))), (6, .c (some (6, 5)) (.sl (b_6.map c_I_u8))), (7, .c none (.v (.int .i64 ((i_7 : Nat) : Int)))), (41, .c none (.v (.bool (((x95.fOp != 2) || (decide (x95.fN < 0))) || (decide (x95.fN > 255))))))], []⟩) ?_ (fun T hw => ?_)
    · refine nd (by decide) _ _ _ ?_
      (repeat (first | ((conv => whnf); (with_reducible refine And.intro ?_ ?_); (focus (first | exact Eq.refl _ | exact trivial | exact Int.natCast_nonneg _ | assumption | exact Nat.le_of_ble_eq_true (Eq.refl true) | decide))) | ((conv => whnf); rw [map_get (TValue.cells_eq x95) hx97]))); (conv => whnf)
      (repeat (first | ((conv => whnf); (with_reducible refine And.intro ?_ ?_); (focus (first | exact Eq.refl _ | exact trivial | exact Int.natCast_nonneg _ | assumption | exact Nat.le_of_ble_eq_true (Eq.refl true) | decide))))); (conv => whnf)
      refine branchG_intro false (fun hc99 => ?_) (fun hc99 => ?_)
      · (conv => whnf)
        (repeat (first | ((conv => whnf); (with_reducible refine And.intro ?_ ?_); (focus (first | exact Eq.refl _ | exact trivial | exact Int.natCast_nonneg _ | assumption | exact Nat.le_of_ble_eq_true (Eq.refl true) | decide))))); (conv => whnf)
        exact Exists.intro (rn [(6, 6)]) (WS.mk (wt_cons (wd_c (WE.refl _)) (wt_cons (wd_c (WE.refl _)) (wt_cons (wd_own rfl (WE.refl _)) (wt_cons (wd_c (WE.refl _)) (wt_cons (wd_c (we_b (by first | exact Eq.refl _ | simp only [hc99, Bool.and_true, Bool.true_and, Bool.and_false, Bool.false_and, Bool.or_true, Bool.true_or, Bool.or_false, Bool.false_or, Bool.not_true, Bool.not_false, cond_true, cond_false, List.length_map]))) wt_nil))))) wb_nil)
      · (conv => whnf)
        (repeat (first | ((conv => whnf); (with_reducible refine And.intro ?_ ?_); (focus (first | exact Eq.refl _ | exact trivial | exact Int.natCast_nonneg _ | assumption | exact Nat.le_of_ble_eq_true (Eq.refl true) | decide))) | ((conv => whnf); rw [map_get (TValue.cells_eq x95) hx97]))); (conv => whnf)
        (repeat (first | ((conv => whnf); (with_reducible refine And.intro ?_ ?_); (focus (first | exact Eq.refl _ | exact trivial | exact Int.natCast_nonneg _ | assumption | exact Nat.le_of_ble_eq_true (Eq.refl true) | decide))))); (conv => whnf)
        refine branchG_intro false (fun hc100 => ?_) (fun hc100 => ?_)
        · (conv => whnf)
          (repeat (first | ((conv => whnf); (with_reducible refine And.intro ?_ ?_); (focus (first | exact Eq.refl _ | exact trivial | exact Int.natCast_nonneg _ | assumption | exact Nat.le_of_ble_eq_true (Eq.refl true) | decide))))); (conv => whnf)
          exact Exists.intro (rn [(6, 6)]) (WS.mk (wt_cons (wd_c (WE.refl _)) (wt_cons (wd_c (WE.refl _)) (wt_cons (wd_own rfl (WE.refl _)) (wt_cons (wd_c (WE.refl _)) (wt_cons (wd_c (we_b (by first | exact Eq.refl _ | simp only [hc99, hc100, Bool.and_true, Bool.true_and, Bool.and_false, Bool.false_and, Bool.or_true, Bool.true_or, Bool.or_false, Bool.false_or, Bool.not_true, Bool.not_false, cond_true, cond_false, List.length_map]))) wt_nil))))) wb_nil)
        · (conv => whnf)
          (repeat (first | ((conv => whnf); (with_reducible refine And.intro ?_ ?_); (focus (first | exact Eq.refl _ | exact trivial | exact Int.natCast_nonneg _ | assumption | exact Nat.le_of_ble_eq_true (Eq.refl true) | decide))) | ((conv => whnf); rw [map_get (TValue.cells_eq x95) hx97]))); (conv => whnf)
          (repeat (first | ((conv => whnf); (with_reducible refine And.intro ?_ ?_); (focus (first | exact Eq.refl _ | exact trivial | exact Int.natCast_nonneg _ | assumption | exact Nat.le_of_ble_eq_true (Eq.refl true) | decide))))); (conv => whnf)
          exact Exists.intro (rn [(6, 6)]) (WS.mk (wt_cons (wd_c (WE.refl _)) (wt_cons (wd_c (WE.refl _)) (wt_cons (wd_own rfl (WE.refl _)) (wt_cons (wd_c (WE.refl _)) (wt_cons (wd_c (we_b (by first | exact Eq.refl _ | simp only [hc99, hc100, Bool.and_true, Bool.true_and, Bool.and_false, Bool.false_and, Bool.or_true, Bool.true_or, Bool.or_false, Bool.false_or, Bool.not_true, Bool.not_false, cond_true, cond_false, List.length_map]))) wt_nil))))) wb_nil)
    obtain ⟨r0, hw⟩ := hw
    (conv => whnf)
    refine AWP.weak r0 hw ?_
    refine nd (by decide) _ _ _ ?_
    (conv => whnf)
    refine branch_hF hF (fun hc101 hF => ?_) (fun hc101 hF => ?_)
    · refine AWP.seq ?_
      refine nd (by decide) _ _ _ ?_
      (repeat (first | ((conv => whnf); (with_reducible refine And.intro ?_ ?_); (focus (first | exact Eq.refl _ | exact trivial | exact Int.natCast_nonneg _ | assumption | exact Nat.le_of_ble_eq_true (Eq.refl true) | decide))))); (conv => whnf)
      obtain rfl := some_eq hF
      refine nd (by decide) _ _ _ ?_
      (repeat (first | ((conv => whnf); (with_reducible refine And.intro ?_ ?_); (focus (first | exact Eq.refl _ | exact trivial | exact Int.natCast_nonneg _ | assumption | exact Nat.le_of_ble_eq_true (Eq.refl true) | decide))))); (conv => whnf)
      exact Exists.intro (rn []) (WS.mk (wt_cons (wd_tup (wx_c (WE.refl _) (wx_c (WE.refl _) wx_nil))) wt_nil) wb_nil)
    · refine nd (by decide) _ _ _ ?_
      (conv => whnf)
      obtain ⟨hg102, hF⟩ := guard_some hF
      refine nd (by decide) _ _ _ ?_
      (repeat (first | ((conv => whnf); (with_reducible refine And.intro ?_ ?_); (focus (first | exact Eq.refl _ | exact trivial | exact Int.natCast_nonneg _ | assumption | exact Nat.le_of_ble_eq_true (Eq.refl true) | decide))) | ((conv => whnf); rw [map_get (TValue.cells_eq x95) hx97]))); (conv => whnf)
      (repeat (first | ((conv => whnf); (with_reducible refine And.intro ?_ ?_); (focus (first | exact Eq.refl _ | exact trivial | exact Int.natCast_nonneg _ | assumption | exact Nat.le_of_ble_eq_true (Eq.refl true) | decide))))); (conv => whnf)
      refine Exists.intro _ (And.intro (we_rows (f := c_I_u8) (wl_cons (WE.refl _) wl_nil) (we_rows_nil (f := c_I_u8))) ?_)
      (repeat (first | ((conv => whnf); (with_reducible refine And.intro ?_ ?_); (focus (first | exact Eq.refl _ | exact trivial | exact Int.natCast_nonneg _ | assumption | exact Nat.le_of_ble_eq_true (Eq.refl true) | decide))))); (conv => whnf)
      refine And.intro (by first | exact rows_map _ (fun x => c_I_u8_len x) | exact rows_nil) (And.intro (by first | exact rows_map _ (fun x => c_I_u8_len x) | exact rows_nil) (And.intro (by have h := hg102; simp only [List.length_map, List.length_append, List.length_cons, List.length_nil, Nat.zero_add] at h ⊢; first | exact h | (unfold maxLen; omega) | omega) (And.intro (by have h := hg102; simp only [List.length_map, List.length_append, List.length_cons, List.length_nil, Nat.zero_add] at h ⊢; first | exact h | (unfold maxLen; omega) | omega) (Exists.intro _ (And.intro (WE.refl _) ?_)))))
      rw [← List.map_append]
      (repeat (first | ((conv => whnf); (with_reducible refine And.intro ?_ ?_); (focus (first | exact Eq.refl _ | exact trivial | exact Int.natCast_nonneg _ | assumption | exact Nat.le_of_ble_eq_true (Eq.refl true) | decide))))); (conv => whnf)
      refine nd (by decide) _ _ _ ?_
      (repeat (first | ((conv => whnf); (with_reducible refine And.intro ?_ ?_); (focus (first | exact Eq.refl _ | exact trivial | exact Int.natCast_nonneg _ | assumption | exact Nat.le_of_ble_eq_true (Eq.refl true) | decide))))); (conv => whnf)
      refine AWL.weak (rn [(50, 6)]) ?_ (ih_lazycref25_Text_l1 r1 (b_6 ++ ([(IntKind.u8.wrap x95.fN)])) (i_7 + 1) xs96 _ hF (pre_i_7 ++ [x95]) (by rw [hs_i_7]; simp) (by rw [hk_i_7]; simp))
      exact (WS.mk (wt_cons (wd_c (WE.refl _)) (wt_cons (wd_c (WE.refl _)) (wt_cons (wd_own rfl (WE.refl _)) (wt_cons (wd_c (we_i (wrap_succ hlen94 hl97))) wt_nil)))) wb_nil)
  · subst hp97
    refine nd (by decide) _ _ _ ?_
    (conv => whnf)
    refine AWP.seq ?_
    refine nd (by decide) _ _ _ ?_
    (repeat (first | ((conv => whnf); (with_reducible refine And.intro ?_ ?_); (focus (first | exact Eq.refl _ | exact trivial | exact Int.natCast_nonneg _ | assumption | exact Nat.le_of_ble_eq_true (Eq.refl true) | decide))))); (conv => whnf)
    refine Exists.intro b_6 (And.intro rfl ?_)
    (repeat (first | ((conv => whnf); (with_reducible refine And.intro ?_ ?_); (focus (first | exact Eq.refl _ | exact trivial | exact Int.natCast_nonneg _ | assumption | exact Nat.le_of_ble_eq_true (Eq.refl true) | decide))))); (conv => whnf)
    obtain rfl := some_eq hF
    refine nd (by decide) _ _ _ ?_
    (repeat (first | ((conv => whnf); (with_reducible refine And.intro ?_ ?_); (focus (first | exact Eq.refl _ | exact trivial | exact Int.natCast_nonneg _ | assumption | exact Nat.le_of_ble_eq_true (Eq.refl true) | decide))))); (conv => whnf)
    exact Exists.intro (rn []) (WS.mk (wt_cons (wd_tup (wx_c (WE.refl _) (wx_c (WE.refl _) wx_nil))) wt_nil) wb_nil)
end Go.Proofs.YtafniolcakiljaaDoor

set_option linter.unusedVariables false
set_option linter.unusedSimpArgs false
set_option maxRecDepth 100000
set_option maxHeartbeats 4000000
namespace Go.Proofs.YtafniolcakiljaaDoor
open Go Go.Am
def lazycref25_Text (v : TValue) : Option (ByteArray × Bool) :=
  lazycref25_List v >>= fun r1 =>
  lazycref25_Text_l1 r1 ([] : List Int) 0 r1.1
def lazycref25_Text.M (v : TValue) (r : ByteArray × Bool) : Prop :=
  CallsX Tryd.prog 20 [.agg [.v (.int .i64 v.fOp), .v (.string v.fName), .v (.int .i64 v.fN), .sl (v.fKids.map TValue.cells), .v (.bool v.fSet.fAll), .sl (v.fSet.fList.map TExc.cells)]] [] (fun d b => d = .tup [.c (.v (.string r.1)), .c (.v (.bool r.2))] ∧ b = [])
theorem lazycref25_Text_ok (v : TValue) (r : ByteArray × Bool) (hF : lazycref25_Text v = some r) : lazycref25_Text.M v r := by
  unfold lazycref25_Text at hF
  unfold lazycref25_Text.M
  refine enter tabOk Tryd.func20 rfl (by decide) (Nat.le_of_ble_eq_true rfl) rfl rfl rfl ?_
  refine AWP.seq ?_
  refine nd (by decide) _ _ _ ?_
  (repeat (first | ((conv => whnf); (with_reducible refine And.intro ?_ ?_); (focus (first | exact Eq.refl _ | exact trivial | exact Int.natCast_nonneg _ | assumption | exact Nat.le_of_ble_eq_true (Eq.refl true) | decide))))); (conv => whnf)
  refine AWP.seq ?_
  obtain ⟨r1, hr1, hF⟩ := bind_some hF
  refine nd (by decide) _ _ _ ?_
  (repeat (first | ((conv => whnf); (with_reducible refine And.intro ?_ ?_); (focus (first | exact Eq.refl _ | exact trivial | exact Int.natCast_nonneg _ | assumption | exact Nat.le_of_ble_eq_true (Eq.refl true) | decide))))); (conv => whnf)
  refine Exists.intro [] ?_
  (repeat (first | ((conv => whnf); (with_reducible refine And.intro ?_ ?_); (focus (first | exact Eq.refl _ | exact trivial | exact Int.natCast_nonneg _ | assumption | exact Nat.le_of_ble_eq_true (Eq.refl true) | decide))))); (conv => whnf)
  refine CallsX.mono (CallsX.weak (rn []) (lazycref25_List_ok v _ hr1) rfl (WS.mk (wt_cons (wd_agg (wl_cons (WE.refl _) (wl_cons (WE.refl _) (wl_cons (WE.refl _) (wl_cons (WE.refl _) (wl_cons (WE.refl _) (wl_cons (WE.refl _) wl_nil))))))) wt_nil) wb_nil)) ?_
  rintro d b ⟨rfl, rfl⟩
  (repeat (first | ((conv => whnf); (with_reducible refine And.intro ?_ ?_); (focus (first | exact Eq.refl _ | exact trivial | exact Int.natCast_nonneg _ | assumption | exact Nat.le_of_ble_eq_true (Eq.refl true) | decide))))); (conv => whnf)
  (repeat (first | ((conv => whnf); (with_reducible refine And.intro ?_ ?_); (focus (first | exact Eq.refl _ | exact trivial | exact Int.natCast_nonneg _ | assumption | exact Nat.le_of_ble_eq_true (Eq.refl true) | decide))))); (conv => whnf)
  refine AWP.seq ?_
  refine nd (by decide) _ _ _ ?_
  (repeat (first | ((conv => whnf); (with_reducible refine And.intro ?_ ?_); (focus (first | exact Eq.refl _ | exact trivial | exact Int.natCast_nonneg _ | assumption | exact Nat.le_of_ble_eq_true (Eq.refl true) | decide))))); (conv => whnf)
  refine Exists.intro _ (And.intro (we_rows_nil (f := c_I_u8)) ?_)
  (repeat (first | ((conv => whnf); (with_reducible refine And.intro ?_ ?_); (focus (first | exact Eq.refl _ | exact trivial | exact Int.natCast_nonneg _ | assumption | exact Nat.le_of_ble_eq_true (Eq.refl true) | decide))))); (conv => whnf)
  refine AWP.seq ?_
  refine AWP.seq ?_
  refine nd (by decide) _ _ _ ?_
  (repeat (first | ((conv => whnf); (with_reducible refine And.intro ?_ ?_); (focus (first | exact Eq.refl _ | exact trivial | exact Int.natCast_nonneg _ | assumption | exact Nat.le_of_ble_eq_true (Eq.refl true) | decide))))); (conv => whnf)
  refine AWP.block ?_
  refine AWP.loop ?_
  refine AWL.weak (rn [(13, 6)]) ?_ (lazycref25_Text_l1_ok r1 ([] : List Int) 0 r1.1 _ hF ([]) rfl rfl)
  exact (WS.mk (wt_cons (wd_c (WE.refl _)) (wt_cons (wd_c (WE.refl _)) (wt_cons (wd_own rfl (WE.refl _)) (wt_cons (wd_c (WE.refl _)) wt_nil)))) wb_nil)
end Go.Proofs.YtafniolcakiljaaDoor

set_option linter.unusedVariables false
set_option linter.unusedSimpArgs false
set_option maxRecDepth 100000
set_option maxHeartbeats 4000000
namespace Go.Proofs.YtafniolcakiljaaDoor
open Go Go.Am
def lazyclaw25_ValuesLists_l1 (r7 : ((List TValue) × Bool)) (r8 : ((List TValue) × Bool)) (x_7 : Nat) (toArray : TValue) (x_7_s_ : (List TValue)) : Option (Bool) :=
  (match x_7_s_ with
  | x59 :: xs60 =>
  (r8.1[x_7]?) >>= fun x62 =>
  lazycref25_Same x59 x62 >>= fun r63 =>
  if (!r63) = true then
  some false
  else
  lazyclaw25_ValuesLists_l1 r7 r8 (x_7 + 1) toArray xs60
  | [] =>
  values_Text toArray >>= fun r65 =>
  lazycref25_Text toArray >>= fun r66 =>
  (if ((r65.1.toList == r66.1.toList) && (r65.2 == r66.2)) = true then lazyclaw25_example >>= fun r67 =>
  some r67 else some false) >>= fun c68 =>
  some c68)
  partial_fixpoint
def lazyclaw25_ValuesLists_l1.M (r7 : ((List TValue) × Bool)) (r8 : ((List TValue) × Bool)) (x_7 : Nat) (toArray : TValue) (x_7_s_ : (List TValue)) (r : Bool) : Prop :=
  ∀ pre_x_7 : List TValue, r7.1 = pre_x_7 ++ x_7_s_ → x_7 = pre_x_7.length → AWL Tryd.prog 73 (Code.sub (bodyOf Tryd.f5) [1, 1, 1, 1, 1, 0, 1, 0, 0]) (Code.cont Tryd.prog 73 (bodyOf Tryd.f5) [1, 1, 1, 1, 1, 0, 1, 0] (endK tab Tryd.f5.results [] (WRes (.c none (.v (.bool r))) []))) ⟨[(1, .ptr 1 0), (3, .c none (.sl (r7.1.map TValue.cells))), (5, .c none (.sl (r8.1.map TValue.cells))), (7, .c none (.v (.int .i64 ((x_7 : Nat) : Int))))], [(1, [(none, .v (.int .i64 toArray.fOp)), (none, .v (.string toArray.fName)), (none, .v (.int .i64 toArray.fN)), (none, .sl (toArray.fKids.map TValue.cells)), (none, .v (.bool toArray.fSet.fAll)), (none, .sl (toArray.fSet.fList.map TExc.cells))])]⟩
theorem lazyclaw25_ValuesLists_l1_ok (r7 : ((List TValue) × Bool)) (r8 : ((List TValue) × Bool)) (x_7 : Nat) (toArray : TValue) (x_7_s_ : (List TValue)) : ∀ r, lazyclaw25_ValuesLists_l1 r7 r8 x_7 toArray x_7_s_ = some r → lazyclaw25_ValuesLists_l1.M r7 r8 x_7 toArray x_7_s_ r := by
  refine lazyclaw25_ValuesLists_l1.partial_correctness r7 r8 toArray (fun x_7 x_7_s_ r => lazyclaw25_ValuesLists_l1.M r7 r8 x_7 toArray x_7_s_ r) ?_ x_7 x_7_s_
  intro lazyclaw25_ValuesLists_l1' ih0_lazyclaw25_ValuesLists_l1 x_7 x_7_s_ r hF
  have ih_lazyclaw25_ValuesLists_l1 := fun (_r7 : ((List TValue) × Bool)) (_r8 : ((List TValue) × Bool)) (x_7 : Nat) (_toArray : TValue) (x_7_s_ : (List TValue)) => ih0_lazyclaw25_ValuesLists_l1 x_7 x_7_s_
  clear ih0_lazyclaw25_ValuesLists_l1
  unfold lazyclaw25_ValuesLists_l1.M
  intro pre_x_7 hs_x_7 hk_x_7
  refine AWL.step ?_
  refine AWP.seq ?_
  refine AWP.seq ?_
  refine nd (by decide) _ _ _ ?_
  (repeat (first | ((conv => whnf); (with_reducible refine And.intro ?_ ?_); (focus (first | exact Eq.refl _ | exact trivial | exact Int.natCast_nonneg _ | assumption | exact Nat.le_of_ble_eq_true (Eq.refl true) | decide))))); (conv => whnf)
  intro hlen58
  (try rw [List.length_map] at hlen58)
  (try rw [List.length_map])
  (repeat (first | ((conv => whnf); (with_reducible refine And.intro ?_ ?_); (focus (first | exact Eq.refl _ | exact trivial | exact Int.natCast_nonneg _ | assumption | exact Nat.le_of_ble_eq_true (Eq.refl true) | decide))))); (conv => whnf)
  refine nd (by decide) _ _ _ ?_
  (conv => whnf)
  refine branch_list hs_x_7 hk_x_7 (fun x59 xs60 hp61 hx61 hl61 => ?_) (fun hp61 => ?_)
  · subst hp61
    refine nd (by decide) _ _ _ ?_
    (conv => whnf)
    refine AWP.seq ?_
    refine AWP.block ?_
    refine AWP.seq ?_
    obtain ⟨x62, hx62, hF⟩ := bind_some hF
    obtain ⟨r63, hr63, hF⟩ := bind_some hF
    refine nd (by decide) _ _ _ ?_
    refine Exists.intro 8 (Exists.intro [[42, 43, 44, 45, 46, 47, 48, 49], [42, 43, 44, 45, 46, 47, 48, 49], [44, 45, 46, 47, 48, 49], [45, 46, 47, 48, 49], [42, 43, 44, 45, 46, 47, 48, 49], [42, 43, 44, 45, 46, 47, 48, 49], [42, 43, 44, 45, 48, 49], [42, 43, 44, 45, 49]] (Exists.intro [42, 43, 44, 45, 46, 47, 48, 49] (And.intro (by decide +kernel) ?_)))
    ((repeat (first | ((conv => whnf); (with_reducible refine And.intro ?_ ?_); (focus (first | exact Eq.refl _ | exact trivial | exact Int.natCast_nonneg _ | assumption | exact Nat.le_of_ble_eq_true (Eq.refl true) | decide))))); (conv => whnf); apply Exists.intro; apply Exists.intro; apply And.intro; (focus (((repeat (first | ((conv => whnf); (with_reducible refine And.intro ?_ ?_); (focus (first | exact Eq.refl _ | exact trivial | exact Int.natCast_nonneg _ | assumption | exact Nat.le_of_ble_eq_true (Eq.refl true) | decide))))); (conv => whnf)) <;> (exact rfl))); apply And.intro; (focus exact rfl); (conv => whnf))
    ((repeat (first | ((conv => whnf); (with_reducible refine And.intro ?_ ?_); (focus (first | exact Eq.refl _ | exact trivial | exact Int.natCast_nonneg _ | assumption | exact Nat.le_of_ble_eq_true (Eq.refl true) | decide))))); (conv => whnf); apply Exists.intro; apply Exists.intro; apply And.intro; (focus (((repeat (first | ((conv => whnf); (with_reducible refine And.intro ?_ ?_); (focus (first | exact Eq.refl _ | exact trivial | exact Int.natCast_nonneg _ | assumption | exact Nat.le_of_ble_eq_true (Eq.refl true) | decide))))); (conv => whnf)) <;> (exact rfl))); apply And.intro; (focus exact rfl); (conv => whnf))
    ((repeat (first | ((conv => whnf); (with_reducible refine And.intro ?_ ?_); (focus (first | exact Eq.refl _ | exact trivial | exact Int.natCast_nonneg _ | assumption | exact Nat.le_of_ble_eq_true (Eq.refl true) | decide))))); (conv => whnf); apply Exists.intro; apply Exists.intro; apply And.intro; (focus (((repeat (first | ((conv => whnf); (with_reducible refine And.intro ?_ ?_); (focus (first | exact Eq.refl _ | exact trivial | exact Int.natCast_nonneg _ | assumption | exact Nat.le_of_ble_eq_true (Eq.refl true) | decide))))); (conv => whnf)) <;> (rw [map_get (TValue.cells_eq x59) hx61]) <;> ((repeat (first | ((conv => whnf); (with_reducible refine And.intro ?_ ?_); (focus (first | exact Eq.refl _ | exact trivial | exact Int.natCast_nonneg _ | assumption | exact Nat.le_of_ble_eq_true (Eq.refl true) | decide))))); (conv => whnf)) <;> (exact rfl))); apply And.intro; (focus exact rfl); (conv => whnf))
    ((repeat (first | ((conv => whnf); (with_reducible refine And.intro ?_ ?_); (focus (first | exact Eq.refl _ | exact trivial | exact Int.natCast_nonneg _ | assumption | exact Nat.le_of_ble_eq_true (Eq.refl true) | decide))))); (conv => whnf); apply Exists.intro; apply Exists.intro; apply And.intro; (focus (((repeat (first | ((conv => whnf); (with_reducible refine And.intro ?_ ?_); (focus (first | exact Eq.refl _ | exact trivial | exact Int.natCast_nonneg _ | assumption | exact Nat.le_of_ble_eq_true (Eq.refl true) | decide))))); (conv => whnf)) <;> (exact rfl))); apply And.intro; (focus exact rfl); (conv => whnf))
    ((repeat (first | ((conv => whnf); (with_reducible refine And.intro ?_ ?_); (focus (first | exact Eq.refl _ | exact trivial | exact Int.natCast_nonneg _ | assumption | exact Nat.le_of_ble_eq_true (Eq.refl true) | decide))))); (conv => whnf); apply Exists.intro; apply Exists.intro; apply And.intro; (focus (((repeat (first | ((conv => whnf); (with_reducible refine And.intro ?_ ?_); (focus (first | exact Eq.refl _ | exact trivial | exact Int.natCast_nonneg _ | assumption | exact Nat.le_of_ble_eq_true (Eq.refl true) | decide))))); (conv => whnf)) <;> (exact rfl))); apply And.intro; (focus exact rfl); (conv => whnf))
    ((repeat (first | ((conv => whnf); (with_reducible refine And.intro ?_ ?_); (focus (first | exact Eq.refl _ | exact trivial | exact Int.natCast_nonneg _ | assumption | exact Nat.le_of_ble_eq_true (Eq.refl true) | decide))))); (conv => whnf); apply Exists.intro; apply Exists.intro; apply And.intro; (focus (((repeat (first | ((conv => whnf); (with_reducible refine And.intro ?_ ?_); (focus (first | exact Eq.refl _ | exact trivial | exact Int.natCast_nonneg _ | assumption | exact Nat.le_of_ble_eq_true (Eq.refl true) | decide))))); (conv => whnf)) <;> (exact rfl))); apply And.intro; (focus exact rfl); (conv => whnf))
    ((repeat (first | ((conv => whnf); (with_reducible refine And.intro ?_ ?_); (focus (first | exact Eq.refl _ | exact trivial | exact Int.natCast_nonneg _ | assumption | exact Nat.le_of_ble_eq_true (Eq.refl true) | decide))))); (conv => whnf); apply Exists.intro; apply Exists.intro; apply And.intro; (focus (((repeat (first | ((conv => whnf); (with_reducible refine And.intro ?_ ?_); (focus (first | exact Eq.refl _ | exact trivial | exact Int.natCast_nonneg _ | assumption | exact Nat.le_of_ble_eq_true (Eq.refl true) | decide))))); (conv => whnf)) <;> (rw [map_get (TValue.cells_eq x62) hx62]) <;> ((repeat (first | ((conv => whnf); (with_reducible refine And.intro ?_ ?_); (focus (first | exact Eq.refl _ | exact trivial | exact Int.natCast_nonneg _ | assumption | exact Nat.le_of_ble_eq_true (Eq.refl true) | decide))))); (conv => whnf)) <;> (exact rfl))); apply And.intro; (focus exact rfl); (conv => whnf))
    ((repeat (first | ((conv => whnf); (with_reducible refine And.intro ?_ ?_); (focus (first | exact Eq.refl _ | exact trivial | exact Int.natCast_nonneg _ | assumption | exact Nat.le_of_ble_eq_true (Eq.refl true) | decide))))); (conv => whnf); apply Exists.intro; apply Exists.intro; apply And.intro; (focus (((repeat (first | ((conv => whnf); (with_reducible refine And.intro ?_ ?_); (focus (first | exact Eq.refl _ | exact trivial | exact Int.natCast_nonneg _ | assumption | exact Nat.le_of_ble_eq_true (Eq.refl true) | decide))))); (conv => whnf)) <;> (exact rfl))); apply And.intro; (focus exact rfl); (conv => whnf))
    (repeat (first | ((conv => whnf); (with_reducible refine And.intro ?_ ?_); (focus (first | exact Eq.refl _ | exact trivial | exact Int.natCast_nonneg _ | assumption | exact Nat.le_of_ble_eq_true (Eq.refl true) | decide))))); (conv => whnf)
    refine Exists.intro [] ?_
    (repeat (first | ((conv => whnf); (with_reducible refine And.intro ?_ ?_); (focus (first | exact Eq.refl _ | exact trivial | exact Int.natCast_nonneg _ | assumption | exact Nat.le_of_ble_eq_true (Eq.refl true) | decide))))); (conv => whnf)
    refine CallsX.mono (CallsX.weak (rn []) (lazycref25_Same_ok x59 x62 _ hr63) rfl (WS.mk (wt_cons (wd_agg (wl_cons (WE.refl _) (wl_cons (WE.refl _) (wl_cons (WE.refl _) (wl_cons (WE.refl _) (wl_cons (WE.refl _) (wl_cons (WE.refl _) wl_nil))))))) (wt_cons (wd_agg (wl_cons (WE.refl _) (wl_cons (WE.refl _) (wl_cons (WE.refl _) (wl_cons (WE.refl _) (wl_cons (WE.refl _) (wl_cons (WE.refl _) wl_nil))))))) wt_nil)) wb_nil)) ?_
    rintro d b ⟨rfl, rfl⟩
    (repeat (first | ((conv => whnf); (with_reducible refine And.intro ?_ ?_); (focus (first | exact Eq.refl _ | exact trivial | exact Int.natCast_nonneg _ | assumption | exact Nat.le_of_ble_eq_true (Eq.refl true) | decide))))); (conv => whnf)
    (repeat (first | ((conv => whnf); (with_reducible refine And.intro ?_ ?_); (focus (first | exact Eq.refl _ | exact trivial | exact Int.natCast_nonneg _ | assumption | exact Nat.le_of_ble_eq_true (Eq.refl true) | decide))))); (conv => whnf)
    refine nd (by decide) _ _ _ ?_
    (conv => whnf)
    refine branch_hF hF (fun hc64 hF => ?_) (fun hc64 hF => ?_)
    · refine AWP.seq ?_
      refine nd (by decide) _ _ _ ?_
      (repeat (first | ((conv => whnf); (with_reducible refine And.intro ?_ ?_); (focus (first | exact Eq.refl _ | exact trivial | exact Int.natCast_nonneg _ | assumption | exact Nat.le_of_ble_eq_true (Eq.refl true) | decide))))); (conv => whnf)
      obtain rfl := some_eq hF
      refine nd (by decide) _ _ _ ?_
      (repeat (first | ((conv => whnf); (with_reducible refine And.intro ?_ ?_); (focus (first | exact Eq.refl _ | exact trivial | exact Int.natCast_nonneg _ | assumption | exact Nat.le_of_ble_eq_true (Eq.refl true) | decide))))); (conv => whnf)
      exact Exists.intro (rn []) (WS.mk (wt_cons (wd_c (WE.refl _)) wt_nil) wb_nil)
    · refine nd (by decide) _ _ _ ?_
      (conv => whnf)
      refine nd (by decide) _ _ _ ?_
      (repeat (first | ((conv => whnf); (with_reducible refine And.intro ?_ ?_); (focus (first | exact Eq.refl _ | exact trivial | exact Int.natCast_nonneg _ | assumption | exact Nat.le_of_ble_eq_true (Eq.refl true) | decide))))); (conv => whnf)
      refine AWL.weak (rn []) ?_ (ih_lazyclaw25_ValuesLists_l1 r7 r8 (x_7 + 1) toArray xs60 _ hF (pre_x_7 ++ [x59]) (by rw [hs_x_7]; simp) (by rw [hk_x_7]; simp))
      exact (WS.mk (wt_cons wd_ptr (wt_cons (wd_c (WE.refl _)) (wt_cons (wd_c (WE.refl _)) (wt_cons (wd_c (we_i (wrap_succ hlen58 hl61))) wt_nil)))) (wb_cons rfl (wc_c (WE.refl _) (wc_c (WE.refl _) (wc_c (WE.refl _) (wc_c (WE.refl _) (wc_c (WE.refl _) (wc_c (WE.refl _) wc_nil)))))) wb_nil))
  · subst hp61
    refine nd (by decide) _ _ _ ?_
    (conv => whnf)
    refine AWP.seq ?_
    obtain ⟨r65, hr65, hF⟩ := bind_some hF
    refine nd (by decide) _ _ _ ?_
    (repeat (first | ((conv => whnf); (with_reducible refine And.intro ?_ ?_); (focus (first | exact Eq.refl _ | exact trivial | exact Int.natCast_nonneg _ | assumption | exact Nat.le_of_ble_eq_true (Eq.refl true) | decide))))); (conv => whnf)
    refine Exists.intro [] ?_
    (repeat (first | ((conv => whnf); (with_reducible refine And.intro ?_ ?_); (focus (first | exact Eq.refl _ | exact trivial | exact Int.natCast_nonneg _ | assumption | exact Nat.le_of_ble_eq_true (Eq.refl true) | decide))))); (conv => whnf)
    refine CallsX.mono (CallsX.weak (rn []) (values_Text_ok toArray _ hr65) rfl (WS.mk (wt_cons (wd_agg (wl_cons (WE.refl _) (wl_cons (WE.refl _) (wl_cons (WE.refl _) (wl_cons (WE.refl _) (wl_cons (WE.refl _) (wl_cons (WE.refl _) wl_nil))))))) wt_nil) wb_nil)) ?_
    rintro d b ⟨rfl, rfl⟩
    (repeat (first | ((conv => whnf); (with_reducible refine And.intro ?_ ?_); (focus (first | exact Eq.refl _ | exact trivial | exact Int.natCast_nonneg _ | assumption | exact Nat.le_of_ble_eq_true (Eq.refl true) | decide))))); (conv => whnf)
    (repeat (first | ((conv => whnf); (with_reducible refine And.intro ?_ ?_); (focus (first | exact Eq.refl _ | exact trivial | exact Int.natCast_nonneg _ | assumption | exact Nat.le_of_ble_eq_true (Eq.refl true) | decide))))); (conv => whnf)
    refine AWP.seq ?_
    obtain ⟨r66, hr66, hF⟩ := bind_some hF
    refine nd (by decide) _ _ _ ?_
    (repeat (first | ((conv => whnf); (with_reducible refine And.intro ?_ ?_); (focus (first | exact Eq.refl _ | exact trivial | exact Int.natCast_nonneg _ | assumption | exact Nat.le_of_ble_eq_true (Eq.refl true) | decide))))); (conv => whnf)
    refine Exists.intro [] ?_
    (repeat (first | ((conv => whnf); (with_reducible refine And.intro ?_ ?_); (focus (first | exact Eq.refl _ | exact trivial | exact Int.natCast_nonneg _ | assumption | exact Nat.le_of_ble_eq_true (Eq.refl true) | decide))))); (conv => whnf)
    refine CallsX.mono (CallsX.weak (rn []) (lazycref25_Text_ok toArray _ hr66) rfl (WS.mk (wt_cons (wd_agg (wl_cons (WE.refl _) (wl_cons (WE.refl _) (wl_cons (WE.refl _) (wl_cons (WE.refl _) (wl_cons (WE.refl _) (wl_cons (WE.refl _) wl_nil))))))) wt_nil) wb_nil)) ?_
    rintro d b ⟨rfl, rfl⟩
    (repeat (first | ((conv => whnf); (with_reducible refine And.intro ?_ ?_); (focus (first | exact Eq.refl _ | exact trivial | exact Int.natCast_nonneg _ | assumption | exact Nat.le_of_ble_eq_true (Eq.refl true) | decide))))); (conv => whnf)
    (repeat (first | ((conv => whnf); (with_reducible refine And.intro ?_ ?_); (focus (first | exact Eq.refl _ | exact trivial | exact Int.natCast_nonneg _ | assumption | exact Nat.le_of_ble_eq_true (Eq.refl true) | decide))))); (conv => whnf)
    refine AWP.seq ?_
    obtain ⟨c68, hc68, hF⟩ := bind_some hF
    refine AWP.cutN (fun T => ∃ r, WS r T ⟨[(2, .c none (.v (.bool c68)))], []⟩) ?_ (fun T hw => ?_)
    · refine nd (by decide) _ _ _ ?_
      (repeat (first | ((conv => whnf); (with_reducible refine And.intro ?_ ?_); (focus (first | exact Eq.refl _ | exact trivial | exact Int.natCast_nonneg _ | assumption | exact Nat.le_of_ble_eq_true (Eq.refl true) | decide))))); (conv => whnf)
      refine branchG_intro true (fun hc69 => ?_) (fun hc69 => ?_)
      · (conv => whnf)
        (repeat (first | ((conv => whnf); (with_reducible refine And.intro ?_ ?_); (focus (first | exact Eq.refl _ | exact trivial | exact Int.natCast_nonneg _ | assumption | exact Nat.le_of_ble_eq_true (Eq.refl true) | decide))))); (conv => whnf)
        refine branchG_intro true (fun hc70 => ?_) (fun hc70 => ?_)
        · have hc68 := if_then (by first | assumption | exact Eq.refl _ | simp only [hc69, hc70, Bool.and_true, Bool.true_and, Bool.and_false, Bool.false_and, Bool.or_true, Bool.true_or, Bool.or_false, Bool.false_or, Bool.not_true, Bool.not_false, cond_true, cond_false, List.length_map]) hc68
          obtain ⟨r67, hr67, hc68⟩ := bind_some hc68
          (conv => whnf)
          (repeat (first | ((conv => whnf); (with_reducible refine And.intro ?_ ?_); (focus (first | exact Eq.refl _ | exact trivial | exact Int.natCast_nonneg _ | assumption | exact Nat.le_of_ble_eq_true (Eq.refl true) | decide))))); (conv => whnf)
          refine Exists.intro [] ?_
          (repeat (first | ((conv => whnf); (with_reducible refine And.intro ?_ ?_); (focus (first | exact Eq.refl _ | exact trivial | exact Int.natCast_nonneg _ | assumption | exact Nat.le_of_ble_eq_true (Eq.refl true) | decide))))); (conv => whnf)
          refine CallsX.mono (CallsX.weak (rn []) (lazyclaw25_example_ok _ hr67) rfl (WS.mk wt_nil wb_nil)) ?_
          rintro d b ⟨rfl, rfl⟩
          (repeat (first | ((conv => whnf); (with_reducible refine And.intro ?_ ?_); (focus (first | exact Eq.refl _ | exact trivial | exact Int.natCast_nonneg _ | assumption | exact Nat.le_of_ble_eq_true (Eq.refl true) | decide))))); (conv => whnf)
          obtain rfl := some_eq hc68
          (repeat (first | ((conv => whnf); (with_reducible refine And.intro ?_ ?_); (focus (first | exact Eq.refl _ | exact trivial | exact Int.natCast_nonneg _ | assumption | exact Nat.le_of_ble_eq_true (Eq.refl true) | decide))))); (conv => whnf)
          exact Exists.intro (rn []) (WS.mk (wt_cons (wd_c (we_b (by first | exact Eq.refl _ | simp only [hc69, hc70, Bool.and_true, Bool.true_and, Bool.and_false, Bool.false_and, Bool.or_true, Bool.true_or, Bool.or_false, Bool.false_or, Bool.not_true, Bool.not_false, cond_true, cond_false, List.length_map]))) wt_nil) wb_nil)
        · have hc68 := if_else (by first | assumption | exact Eq.refl _ | simp only [hc69, hc70, Bool.and_true, Bool.true_and, Bool.and_false, Bool.false_and, Bool.or_true, Bool.true_or, Bool.or_false, Bool.false_or, Bool.not_true, Bool.not_false, cond_true, cond_false, List.length_map]) hc68
          (conv => whnf)
          obtain rfl := some_eq hc68
          (repeat (first | ((conv => whnf); (with_reducible refine And.intro ?_ ?_); (focus (first | exact Eq.refl _ | exact trivial | exact Int.natCast_nonneg _ | assumption | exact Nat.le_of_ble_eq_true (Eq.refl true) | decide))))); (conv => whnf)
          exact Exists.intro (rn []) (WS.mk (wt_cons (wd_c (we_b (by first | exact Eq.refl _ | simp only [hc69, hc70, Bool.and_true, Bool.true_and, Bool.and_false, Bool.false_and, Bool.or_true, Bool.true_or, Bool.or_false, Bool.false_or, Bool.not_true, Bool.not_false, cond_true, cond_false, List.length_map]))) wt_nil) wb_nil)
      · (conv => whnf)
        have hc68 := if_else (by first | assumption | exact Eq.refl _ | simp only [hc69, Bool.and_true, Bool.true_and, Bool.and_false, Bool.false_and, Bool.or_true, Bool.true_or, Bool.or_false, Bool.false_or, Bool.not_true, Bool.not_false, cond_true, cond_false, List.length_map]) hc68
        obtain rfl := some_eq hc68
        (repeat (first | ((conv => whnf); (with_reducible refine And.intro ?_ ?_); (focus (first | exact Eq.refl _ | exact trivial | exact Int.natCast_nonneg _ | assumption | exact Nat.le_of_ble_eq_true (Eq.refl true) | decide))))); (conv => whnf)
        exact Exists.intro (rn []) (WS.mk (wt_cons (wd_c (we_b (by first | exact Eq.refl _ | simp only [hc69, Bool.and_true, Bool.true_and, Bool.and_false, Bool.false_and, Bool.or_true, Bool.true_or, Bool.or_false, Bool.false_or, Bool.not_true, Bool.not_false, cond_true, cond_false, List.length_map]))) wt_nil) wb_nil)
    obtain ⟨r0, hw⟩ := hw
    (conv => whnf)
    refine AWP.weak r0 hw ?_
    obtain rfl := some_eq hF
    refine nd (by decide) _ _ _ ?_
    (repeat (first | ((conv => whnf); (with_reducible refine And.intro ?_ ?_); (focus (first | exact Eq.refl _ | exact trivial | exact Int.natCast_nonneg _ | assumption | exact Nat.le_of_ble_eq_true (Eq.refl true) | decide))))); (conv => whnf)
    exact Exists.intro (rn []) (WS.mk (wt_cons (wd_c (WE.refl _)) wt_nil) wb_nil)
end Go.Proofs.YtafniolcakiljaaDoor

set_option linter.unusedVariables false
set_option linter.unusedSimpArgs false
set_option maxRecDepth 100000
set_option maxHeartbeats 4000000
namespace Go.Proofs.YtafniolcakiljaaDoor
open Go Go.Am
def lazyclaw25_ValuesLists (toArray : TValue) : Option (Bool) :=
  lazyclaw25_small toArray >>= fun r4 =>
  if (!r4) = true then
  lazyclaw25_example >>= fun r6 =>
  some r6
  else
  values_List toArray >>= fun r7 =>
  lazycref25_List toArray >>= fun r8 =>
  if ((!(r7.2 == r8.2)) || (((r7.1.length : Nat) : Int) != ((r8.1.length : Nat) : Int))) = true then
  some false
  else
  lazyclaw25_ValuesLists_l1 r7 r8 0 toArray r7.1
def lazyclaw25_ValuesLists.M (toArray : TValue) (r : Bool) : Prop :=
  CallsX Tryd.prog 5 [.agg [.v (.int .i64 toArray.fOp), .v (.string toArray.fName), .v (.int .i64 toArray.fN), .sl (toArray.fKids.map TValue.cells), .v (.bool toArray.fSet.fAll), .sl (toArray.fSet.fList.map TExc.cells)]] [] (fun d b => d = .c none (.v (.bool r)) ∧ b = [])
theorem lazyclaw25_ValuesLists_ok (toArray : TValue) (r : Bool) (hF : lazyclaw25_ValuesLists toArray = some r) : lazyclaw25_ValuesLists.M toArray r := by
  unfold lazyclaw25_ValuesLists at hF
  unfold lazyclaw25_ValuesLists.M
  refine enter tabOk Tryd.func5 rfl (by decide) (Nat.le_of_ble_eq_true rfl) rfl rfl rfl ?_
  refine AWP.seq ?_
  refine nd (by decide) _ _ _ ?_
  (repeat (first | ((conv => whnf); (with_reducible refine And.intro ?_ ?_); (focus (first | exact Eq.refl _ | exact trivial | exact Int.natCast_nonneg _ | assumption | exact Nat.le_of_ble_eq_true (Eq.refl true) | decide))))); (conv => whnf)
  refine AWP.seq ?_
  refine AWP.seq ?_
  obtain ⟨r4, hr4, hF⟩ := bind_some hF
  refine nd (by decide) _ _ _ ?_
  (repeat (first | ((conv => whnf); (with_reducible refine And.intro ?_ ?_); (focus (first | exact Eq.refl _ | exact trivial | exact Int.natCast_nonneg _ | assumption | exact Nat.le_of_ble_eq_true (Eq.refl true) | decide))))); (conv => whnf)
  refine Exists.intro [] ?_
  (repeat (first | ((conv => whnf); (with_reducible refine And.intro ?_ ?_); (focus (first | exact Eq.refl _ | exact trivial | exact Int.natCast_nonneg _ | assumption | exact Nat.le_of_ble_eq_true (Eq.refl true) | decide))))); (conv => whnf)
  refine CallsX.mono (CallsX.weak (rn []) (lazyclaw25_small_ok toArray _ hr4) rfl (WS.mk (wt_cons (wd_agg (wl_cons (WE.refl _) (wl_cons (WE.refl _) (wl_cons (WE.refl _) (wl_cons (WE.refl _) (wl_cons (WE.refl _) (wl_cons (WE.refl _) wl_nil))))))) wt_nil) wb_nil)) ?_
  rintro d b ⟨rfl, rfl⟩
  (repeat (first | ((conv => whnf); (with_reducible refine And.intro ?_ ?_); (focus (first | exact Eq.refl _ | exact trivial | exact Int.natCast_nonneg _ | assumption | exact Nat.le_of_ble_eq_true (Eq.refl true) | decide))))); (conv => whnf)
  (repeat (first | ((conv => whnf); (with_reducible refine And.intro ?_ ?_); (focus (first | exact Eq.refl _ | exact trivial | exact Int.natCast_nonneg _ | assumption | exact Nat.le_of_ble_eq_true (Eq.refl true) | decide))))); (conv => whnf)
  refine nd (by decide) _ _ _ ?_
  (conv => whnf)
  refine branch_hF hF (fun hc5 hF => ?_) (fun hc5 hF => ?_)
  · refine AWP.seq ?_
    obtain ⟨r6, hr6, hF⟩ := bind_some hF
    refine nd (by decide) _ _ _ ?_
    (repeat (first | ((conv => whnf); (with_reducible refine And.intro ?_ ?_); (focus (first | exact Eq.refl _ | exact trivial | exact Int.natCast_nonneg _ | assumption | exact Nat.le_of_ble_eq_true (Eq.refl true) | decide))))); (conv => whnf)
    refine Exists.intro [] ?_
    (repeat (first | ((conv => whnf); (with_reducible refine And.intro ?_ ?_); (focus (first | exact Eq.refl _ | exact trivial | exact Int.natCast_nonneg _ | assumption | exact Nat.le_of_ble_eq_true (Eq.refl true) | decide))))); (conv => whnf)
    refine CallsX.mono (CallsX.weak (rn []) (lazyclaw25_example_ok _ hr6) rfl (WS.mk wt_nil wb_nil)) ?_
    rintro d b ⟨rfl, rfl⟩
    (repeat (first | ((conv => whnf); (with_reducible refine And.intro ?_ ?_); (focus (first | exact Eq.refl _ | exact trivial | exact Int.natCast_nonneg _ | assumption | exact Nat.le_of_ble_eq_true (Eq.refl true) | decide))))); (conv => whnf)
    (repeat (first | ((conv => whnf); (with_reducible refine And.intro ?_ ?_); (focus (first | exact Eq.refl _ | exact trivial | exact Int.natCast_nonneg _ | assumption | exact Nat.le_of_ble_eq_true (Eq.refl true) | decide))))); (conv => whnf)
    obtain rfl := some_eq hF
    refine nd (by decide) _ _ _ ?_
    (repeat (first | ((conv => whnf); (with_reducible refine And.intro ?_ ?_); (focus (first | exact Eq.refl _ | exact trivial | exact Int.natCast_nonneg _ | assumption | exact Nat.le_of_ble_eq_true (Eq.refl true) | decide))))); (conv => whnf)
    exact Exists.intro (rn []) (WS.mk (wt_cons (wd_c (WE.refl _)) wt_nil) wb_nil)
  · refine nd (by decide) _ _ _ ?_
    (conv => whnf)
    refine AWP.seq ?_
    obtain ⟨r7, hr7, hF⟩ := bind_some hF
    refine nd (by decide) _ _ _ ?_
    (repeat (first | ((conv => whnf); (with_reducible refine And.intro ?_ ?_); (focus (first | exact Eq.refl _ | exact trivial | exact Int.natCast_nonneg _ | assumption | exact Nat.le_of_ble_eq_true (Eq.refl true) | decide))))); (conv => whnf)
    refine Exists.intro [] ?_
    (repeat (first | ((conv => whnf); (with_reducible refine And.intro ?_ ?_); (focus (first | exact Eq.refl _ | exact trivial | exact Int.natCast_nonneg _ | assumption | exact Nat.le_of_ble_eq_true (Eq.refl true) | decide))))); (conv => whnf)
    refine CallsX.mono (CallsX.weak (rn []) (values_List_ok toArray _ hr7) rfl (WS.mk (wt_cons (wd_agg (wl_cons (WE.refl _) (wl_cons (WE.refl _) (wl_cons (WE.refl _) (wl_cons (WE.refl _) (wl_cons (WE.refl _) (wl_cons (WE.refl _) wl_nil))))))) wt_nil) wb_nil)) ?_
    rintro d b ⟨rfl, rfl⟩
    (repeat (first | ((conv => whnf); (with_reducible refine And.intro ?_ ?_); (focus (first | exact Eq.refl _ | exact trivial | exact Int.natCast_nonneg _ | assumption | exact Nat.le_of_ble_eq_true (Eq.refl true) | decide))))); (conv => whnf)
    (repeat (first | ((conv => whnf); (with_reducible refine And.intro ?_ ?_); (focus (first | exact Eq.refl _ | exact trivial | exact Int.natCast_nonneg _ | assumption | exact Nat.le_of_ble_eq_true (Eq.refl true) | decide))))); (conv => whnf)
    refine AWP.seq ?_
    obtain ⟨r8, hr8, hF⟩ := bind_some hF
    refine nd (by decide) _ _ _ ?_
    (repeat (first | ((conv => whnf); (with_reducible refine And.intro ?_ ?_); (focus (first | exact Eq.refl _ | exact trivial | exact Int.natCast_nonneg _ | assumption | exact Nat.le_of_ble_eq_true (Eq.refl true) | decide))))); (conv => whnf)
    refine Exists.intro [] ?_
    (repeat (first | ((conv => whnf); (with_reducible refine And.intro ?_ ?_); (focus (first | exact Eq.refl _ | exact trivial | exact Int.natCast_nonneg _ | assumption | exact Nat.le_of_ble_eq_true (Eq.refl true) | decide))))); (conv => whnf)
    refine CallsX.mono (CallsX.weak (rn []) (lazycref25_List_ok toArray _ hr8) rfl (WS.mk (wt_cons (wd_agg (wl_cons (WE.refl _) (wl_cons (WE.refl _) (wl_cons (WE.refl _) (wl_cons (WE.refl _) (wl_cons (WE.refl _) (wl_cons (WE.refl _) wl_nil))))))) wt_nil) wb_nil)) ?_
    rintro d b ⟨rfl, rfl⟩
    (repeat (first | ((conv => whnf); (with_reducible refine And.intro ?_ ?_); (focus (first | exact Eq.refl _ | exact trivial | exact Int.natCast_nonneg _ | assumption | exact Nat.le_of_ble_eq_true (Eq.refl true) | decide))))); (conv => whnf)
    (repeat (first | ((conv => whnf); (with_reducible refine And.intro ?_ ?_); (focus (first | exact Eq.refl _ | exact trivial | exact Int.natCast_nonneg _ | assumption | exact Nat.le_of_ble_eq_true (Eq.refl true) | decide))))); (conv => whnf)
    refine AWP.seq ?_
    refine AWP.seq ?_
    refine AWP.cutN (fun T => ∃ r, WS r T ⟨[(1, .ptr 1 0), (3, .c none (.sl (r7.1.map TValue.cells))), (5, .c none (.sl (r8.1.map TValue.cells))), (35, .c none (.v (.bool ((!(r7.2 == r8.2)) || (((r7.1.length : Nat) : Int) != ((r8.1.length : Nat) : Int))))))], [(1, [(none, .v (.int .i64 toArray.fOp)), (none, .v (.string toArray.fName)), (none, .v (.int .i64 toArray.fN)), (none, .sl (toArray.fKids.map TValue.cells)), (none, .v (.bool toArray.fSet.fAll)), (none, .sl (toArray.fSet.fList.map TExc.cells))])]⟩) ?_ (fun T hw => ?_)
    · refine nd (by decide) _ _ _ ?_
      (repeat (first | ((conv => whnf); (with_reducible refine And.intro ?_ ?_); (focus (first | exact Eq.refl _ | exact trivial | exact Int.natCast_nonneg _ | assumption | exact Nat.le_of_ble_eq_true (Eq.refl true) | decide))))); (conv => whnf)
      refine branchG_intro false (fun hc14 => ?_) (fun hc14 => ?_)
      · (conv => whnf)
        (repeat (first | ((conv => whnf); (with_reducible refine And.intro ?_ ?_); (focus (first | exact Eq.refl _ | exact trivial | exact Int.natCast_nonneg _ | assumption | exact Nat.le_of_ble_eq_true (Eq.refl true) | decide))))); (conv => whnf)
        exact Exists.intro (rn []) (WS.mk (wt_cons wd_ptr (wt_cons (wd_c (WE.refl _)) (wt_cons (wd_c (WE.refl _)) (wt_cons (wd_c (we_b (by first | exact Eq.refl _ | simp only [hc14, Bool.and_true, Bool.true_and, Bool.and_false, Bool.false_and, Bool.or_true, Bool.true_or, Bool.or_false, Bool.false_or, Bool.not_true, Bool.not_false, cond_true, cond_false, List.length_map]))) wt_nil)))) (wb_cons rfl (wc_c (WE.refl _) (wc_c (WE.refl _) (wc_c (WE.refl _) (wc_c (WE.refl _) (wc_c (WE.refl _) (wc_c (WE.refl _) wc_nil)))))) wb_nil))
      · (conv => whnf)
        (repeat (first | ((conv => whnf); (with_reducible refine And.intro ?_ ?_); (focus (first | exact Eq.refl _ | exact trivial | exact Int.natCast_nonneg _ | assumption | exact Nat.le_of_ble_eq_true (Eq.refl true) | decide))))); (conv => whnf)
        intro hlen12
        (try rw [List.length_map] at hlen12)
        (try rw [List.length_map])
        (repeat (first | ((conv => whnf); (with_reducible refine And.intro ?_ ?_); (focus (first | exact Eq.refl _ | exact trivial | exact Int.natCast_nonneg _ | assumption | exact Nat.le_of_ble_eq_true (Eq.refl true) | decide))))); (conv => whnf)
        intro hlen13
        (try rw [List.length_map] at hlen13)
        (try rw [List.length_map])
        (repeat (first | ((conv => whnf); (with_reducible refine And.intro ?_ ?_); (focus (first | exact Eq.refl _ | exact trivial | exact Int.natCast_nonneg _ | assumption | exact Nat.le_of_ble_eq_true (Eq.refl true) | decide))))); (conv => whnf)
        exact Exists.intro (rn []) (WS.mk (wt_cons wd_ptr (wt_cons (wd_c (WE.refl _)) (wt_cons (wd_c (WE.refl _)) (wt_cons (wd_c (we_b (by first | exact Eq.refl _ | simp only [hc14, Bool.and_true, Bool.true_and, Bool.and_false, Bool.false_and, Bool.or_true, Bool.true_or, Bool.or_false, Bool.false_or, Bool.not_true, Bool.not_false, cond_true, cond_false, List.length_map]))) wt_nil)))) (wb_cons rfl (wc_c (WE.refl _) (wc_c (WE.refl _) (wc_c (WE.refl _) (wc_c (WE.refl _) (wc_c (WE.refl _) (wc_c (WE.refl _) wc_nil)))))) wb_nil))
    obtain ⟨r0, hw⟩ := hw
    (conv => whnf)
    refine AWP.weak r0 hw ?_
    refine nd (by decide) _ _ _ ?_
    (conv => whnf)
    refine branch_hF hF (fun hc15 hF => ?_) (fun hc15 hF => ?_)
    · refine AWP.seq ?_
      refine nd (by decide) _ _ _ ?_
      (repeat (first | ((conv => whnf); (with_reducible refine And.intro ?_ ?_); (focus (first | exact Eq.refl _ | exact trivial | exact Int.natCast_nonneg _ | assumption | exact Nat.le_of_ble_eq_true (Eq.refl true) | decide))))); (conv => whnf)
      obtain rfl := some_eq hF
      refine nd (by decide) _ _ _ ?_
      (repeat (first | ((conv => whnf); (with_reducible refine And.intro ?_ ?_); (focus (first | exact Eq.refl _ | exact trivial | exact Int.natCast_nonneg _ | assumption | exact Nat.le_of_ble_eq_true (Eq.refl true) | decide))))); (conv => whnf)
      exact Exists.intro (rn []) (WS.mk (wt_cons (wd_c (WE.refl _)) wt_nil) wb_nil)
    · refine nd (by decide) _ _ _ ?_
      (conv => whnf)
      refine AWP.seq ?_
      refine AWP.seq ?_
      refine nd (by decide) _ _ _ ?_
      (repeat (first | ((conv => whnf); (with_reducible refine And.intro ?_ ?_); (focus (first | exact Eq.refl _ | exact trivial | exact Int.natCast_nonneg _ | assumption | exact Nat.le_of_ble_eq_true (Eq.refl true) | decide))))); (conv => whnf)
      refine AWP.block ?_
      refine AWP.loop ?_
      refine AWL.weak (rn []) ?_ (lazyclaw25_ValuesLists_l1_ok r7 r8 0 toArray r7.1 _ hF ([]) rfl rfl)
      exact (WS.mk (wt_cons wd_ptr (wt_cons (wd_c (WE.refl _)) (wt_cons (wd_c (WE.refl _)) (wt_cons (wd_c (WE.refl _)) wt_nil)))) (wb_cons rfl (wc_c (WE.refl _) (wc_c (WE.refl _) (wc_c (WE.refl _) (wc_c (WE.refl _) (wc_c (WE.refl _) (wc_c (WE.refl _) wc_nil)))))) wb_nil))
end Go.Proofs.YtafniolcakiljaaDoor

