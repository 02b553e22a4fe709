/- Part 6 of the proof: the lifted functions and their walks. It holds for every input, without conditions. -/
import Derived.Test.YtafniolcakiljaaDoorVtA
import Derived.Test.YtafniolcakiljaaDoorVtB
import Derived.Test.YtafniolcakiljaaDoorVtC
import Derived.Test.YtafniolcakiljaaDoorVtD
import Derived.Test.YtafniolcakiljaaDoorVtE
set_option linter.unusedVariables false
set_option linter.unusedSimpArgs false
set_option maxRecDepth 100000
set_option maxHeartbeats 4000000
namespace Go.Proofs.YtafniolcakiljaaDoor
open Go Go.Am
def values_Parse (s : ByteArray) : Option (TValue × TFault) :=
  strings_Split s (ByteArray.mk #[32]) >>= fun r1 =>
  values_reader_value (Tvalues_reader.mk r1 0 false) 1 >>= fun r2 =>
  (if (r2.2.fbad || (r2.2.fat != ((r2.2.fwords.length : Nat) : Int))) = true then some true else values_Check r2.1 >>= fun r8 =>
  some (r8 != 0)) >>= fun c9 =>
  (if c9 = true then some true else values_Print r2.1 >>= fun r10 =>
  some (!(r10.toList == s.toList))) >>= fun c11 =>
  if c11 = true then
  some (TValue.mk 0 (ByteArray.mk #[]) 0 ([] : List TValue) (TExcSet.mk false ([] : List TExc)), TFault.mk 31 (ByteArray.mk #[]) 0 0)
  else
  some (r2.1, TFault.mk 0 (ByteArray.mk #[]) 0 0)
def values_Parse.M (s : ByteArray) (r : TValue × TFault) : Prop :=
  CallsX Tryd.prog 37 [.c none (.v (.string s))] [] (fun d b => d = .tup [.agg [.v (.int .i64 r.1.fOp), .v (.string r.1.fName), .v (.int .i64 r.1.fN), .sl (r.1.fKids.map TValue.cells), .v (.bool r.1.fSet.fAll), .sl (r.1.fSet.fList.map TExc.cells)], .agg [.v (.int .i64 r.2.fCode), .v (.string r.2.fName), .v (.int .i64 r.2.fLine), .v (.int .i64 r.2.fCol)]] ∧ b = [])
theorem values_Parse_ok (s : ByteArray) (r : TValue × TFault) (hF : values_Parse s = some r) : values_Parse.M s r := by
  unfold values_Parse at hF
  unfold values_Parse.M
  refine enter tabOk Tryd.func37 rfl (by decide) (Nat.le_of_ble_eq_true rfl) rfl rfl rfl ?_
  refine AWP.seq ?_
  refine nd (by decide) _ _ _ ?_
  (repeat (first | ((conv => whnf); (with_reducible refine And.intro ?_ ?_); (focus (first | exact Eq.refl _ | exact trivial | exact Int.natCast_nonneg _ | assumption | exact Nat.le_of_ble_eq_true (Eq.refl true) | decide))))); (conv => whnf)
  refine AWP.seq ?_
  obtain ⟨r1, hr1, hF⟩ := bind_some hF
  refine nd (by decide) _ _ _ ?_
  (repeat (first | ((conv => whnf); (with_reducible refine And.intro ?_ ?_); (focus (first | exact Eq.refl _ | exact trivial | exact Int.natCast_nonneg _ | assumption | exact Nat.le_of_ble_eq_true (Eq.refl true) | decide))))); (conv => whnf)
  refine Exists.intro [] ?_
  (repeat (first | ((conv => whnf); (with_reducible refine And.intro ?_ ?_); (focus (first | exact Eq.refl _ | exact trivial | exact Int.natCast_nonneg _ | assumption | exact Nat.le_of_ble_eq_true (Eq.refl true) | decide))))); (conv => whnf)
  refine CallsX.mono (CallsX.weak (rn []) (strings_Split_ok s (ByteArray.mk #[32]) _ hr1) rfl (WS.mk (wt_cons (wd_c (WE.refl _)) (wt_cons (wd_c (WE.refl _)) wt_nil)) wb_nil)) ?_
  rintro d b ⟨rfl, rfl⟩
  (repeat (first | ((conv => whnf); (with_reducible refine And.intro ?_ ?_); (focus (first | exact Eq.refl _ | exact trivial | exact Int.natCast_nonneg _ | assumption | exact Nat.le_of_ble_eq_true (Eq.refl true) | decide))))); (conv => whnf)
  (repeat (first | ((conv => whnf); (with_reducible refine And.intro ?_ ?_); (focus (first | exact Eq.refl _ | exact trivial | exact Int.natCast_nonneg _ | assumption | exact Nat.le_of_ble_eq_true (Eq.refl true) | decide))))); (conv => whnf)
  refine AWP.seq ?_
  obtain ⟨r2, hr2, hF⟩ := bind_some hF
  refine nd (by decide) _ _ _ ?_
  (repeat (first | ((conv => whnf); (with_reducible refine And.intro ?_ ?_); (focus (first | exact Eq.refl _ | exact trivial | exact Int.natCast_nonneg _ | assumption | exact Nat.le_of_ble_eq_true (Eq.refl true) | decide))))); (conv => whnf)
  refine Exists.intro [] ?_
  (repeat (first | ((conv => whnf); (with_reducible refine And.intro ?_ ?_); (focus (first | exact Eq.refl _ | exact trivial | exact Int.natCast_nonneg _ | assumption | exact Nat.le_of_ble_eq_true (Eq.refl true) | decide))))); (conv => whnf)
  refine CallsX.mono (CallsX.weak (rn []) (values_reader_value_ok (Tvalues_reader.mk r1 0 false) 1 _ hr2) rfl (WS.mk (wt_cons wd_ptr (wt_cons (wd_c (WE.refl _)) wt_nil)) (wb_cons rfl (wc_c (WE.refl _) (wc_c (WE.refl _) (wc_c (WE.refl _) wc_nil))) wb_nil))) ?_
  rintro d b ⟨rfl, rfl⟩
  (repeat (first | ((conv => whnf); (with_reducible refine And.intro ?_ ?_); (focus (first | exact Eq.refl _ | exact trivial | exact Int.natCast_nonneg _ | assumption | exact Nat.le_of_ble_eq_true (Eq.refl true) | decide))))); (conv => whnf)
  (repeat (first | ((conv => whnf); (with_reducible refine And.intro ?_ ?_); (focus (first | exact Eq.refl _ | exact trivial | exact Int.natCast_nonneg _ | assumption | exact Nat.le_of_ble_eq_true (Eq.refl true) | decide))))); (conv => whnf)
  refine AWP.seq ?_
  refine AWP.seq ?_
  obtain ⟨c9, hc9, hF⟩ := bind_some hF
  obtain ⟨c11, hc11, hF⟩ := bind_some hF
  refine AWP.cutN (fun T => ∃ r, WS r T ⟨[(2, .ptr 2 0), (3, .ptr 3 0), (5, .ptr 5 0), (38, .c none (.v (.bool c11)))], [(2, [(none, .v (.int .i64 0)), (none, .v (.string (ByteArray.mk #[]))), (none, .v (.int .i64 0)), (none, .nils), (none, .v (.bool false)), (none, .nils)]), (3, [(none, .v (.int .i64 0)), (none, .v (.string (ByteArray.mk #[]))), (none, .v (.int .i64 0)), (none, .v (.int .i64 0))]), (5, [(none, .v (.int .i64 r2.1.fOp)), (none, .v (.string r2.1.fName)), (none, .v (.int .i64 r2.1.fN)), (none, .sl (r2.1.fKids.map TValue.cells)), (none, .v (.bool r2.1.fSet.fAll)), (none, .sl (r2.1.fSet.fList.map TExc.cells))])]⟩) ?_ (fun T hw => ?_)
  · refine nd (by decide) _ _ _ ?_
    refine Exists.intro 25 (Exists.intro [[], [], [], [], [], [], [], [], [], [], [], [], [], [], [], [], [], [], [], [], [], [], [], [], []] (Exists.intro [([12, 13, 14, 15, 16, 17, 18, 19, 20, 21, 22, 23, 24, 25, 26, 27, 28, 29, 30, 31, 32, 33, 34, 35, 36], [], []), ([13, 14, 15, 16, 17, 18, 19, 20, 21, 22, 23, 24, 25, 26, 27, 28, 29, 30, 31, 32, 33, 34, 35, 36], [], []), ([14, 15, 16, 17, 18, 19, 20, 21, 22, 23, 24, 25, 26, 27, 28, 29, 30, 31, 32, 33, 34, 35, 36], [], []), ([15, 16, 17, 18, 19, 20, 21, 22, 23, 24, 25, 26, 27, 28, 29, 30, 31, 32, 33, 34, 35, 36], [], []), ([16, 17, 18, 19, 20, 21, 22, 23, 24, 25, 26, 27, 28, 29, 30, 31, 32, 33, 34, 35, 36], [], []), ([17, 18, 19, 20, 21, 22, 23, 24, 25, 26, 27, 28, 29, 30, 31, 32, 33, 34, 35, 36], [], []), ([18, 19, 20, 21, 22, 23, 24, 25, 26, 27, 28, 29, 30, 31, 32, 33, 34, 35, 36], [], []), ([19, 20, 21, 22, 23, 24, 25, 26, 27, 28, 29, 30, 31, 32, 33, 34, 35, 36], [], []), ([20, 21, 22, 23, 24, 25, 26, 27, 28, 29, 30, 31, 32, 33, 34, 35, 36], [], []), ([17, 18, 19, 20, 21, 22, 23, 24, 25, 26, 27, 28, 29, 30, 31, 32, 33, 34, 35, 36], [], []), ([17, 18, 19, 20, 22, 23, 24, 25, 26, 27, 28, 29, 30, 31, 32, 33, 34, 35, 36], [], []), ([17, 18, 19, 20, 23, 24, 25, 26, 27, 28, 29, 30, 31, 32, 33, 34, 35, 36], [], []), ([17, 18, 19, 20, 24, 25, 26, 27, 28, 29, 30, 31, 32, 33, 34, 35, 36], [], []), ([17, 18, 19, 20, 25, 26, 27, 28, 29, 30, 31, 32, 33, 34, 35, 36], [], []), ([26, 27, 28, 29, 30, 31, 32, 33, 34, 35, 36], [], []), ([27, 28, 29, 30, 31, 32, 33, 34, 35, 36], [], []), ([28, 29, 30, 31, 32, 33, 34, 35, 36], [], []), ([29, 30, 31, 32, 33, 34, 35, 36], [], []), ([30, 31, 32, 33, 34, 35, 36], [], []), ([31, 32, 33, 34, 35, 36], [], []), ([32, 33, 34, 35, 36], [], []), ([33, 34, 35, 36], [], []), ([34, 35, 36], [], []), ([35, 36], [], []), ([34, 35, 36], [], [])] (Exists.intro [12, 13, 14, 15, 16, 17, 18, 19, 20, 21, 22, 23, 24, 25, 26, 27, 28, 29, 30, 31, 32, 33, 34, 35, 36] (And.intro (by decide +kernel) ?_))))
    ((repeat (first | ((conv => whnf); (with_reducible refine And.intro ?_ ?_); (focus (first | exact Eq.refl _ | exact trivial | exact Int.natCast_nonneg _ | assumption | exact Nat.le_of_ble_eq_true (Eq.refl true) | decide))))); (conv => whnf); apply Exists.intro; apply Exists.intro; apply And.intro; (focus (((repeat (first | ((conv => whnf); (with_reducible refine And.intro ?_ ?_); (focus (first | exact Eq.refl _ | exact trivial | exact Int.natCast_nonneg _ | assumption | exact Nat.le_of_ble_eq_true (Eq.refl true) | decide))))); (conv => whnf)) <;> (exact rfl))); apply And.intro; (focus exact rfl); (conv => whnf))
    ((repeat (first | ((conv => whnf); (with_reducible refine And.intro ?_ ?_); (focus (first | exact Eq.refl _ | exact trivial | exact Int.natCast_nonneg _ | assumption | exact Nat.le_of_ble_eq_true (Eq.refl true) | decide))))); (conv => whnf); apply Exists.intro; apply Exists.intro; apply And.intro; (focus (((repeat (first | ((conv => whnf); (with_reducible refine And.intro ?_ ?_); (focus (first | exact Eq.refl _ | exact trivial | exact Int.natCast_nonneg _ | assumption | exact Nat.le_of_ble_eq_true (Eq.refl true) | decide))))); (conv => whnf)) <;> (exact rfl))); apply And.intro; (focus exact rfl); (conv => whnf))
    ((repeat (first | ((conv => whnf); (with_reducible refine And.intro ?_ ?_); (focus (first | exact Eq.refl _ | exact trivial | exact Int.natCast_nonneg _ | assumption | exact Nat.le_of_ble_eq_true (Eq.refl true) | decide))))); (conv => whnf); apply Exists.intro; apply Exists.intro; apply And.intro; (focus (((repeat (first | ((conv => whnf); (with_reducible refine And.intro ?_ ?_); (focus (first | exact Eq.refl _ | exact trivial | exact Int.natCast_nonneg _ | assumption | exact Nat.le_of_ble_eq_true (Eq.refl true) | decide))))); (conv => whnf)) <;> (exact rfl))); apply And.intro; (focus exact rfl); (conv => whnf))
    ((repeat (first | ((conv => whnf); (with_reducible refine And.intro ?_ ?_); (focus (first | exact Eq.refl _ | exact trivial | exact Int.natCast_nonneg _ | assumption | exact Nat.le_of_ble_eq_true (Eq.refl true) | decide))))); (conv => whnf); apply Exists.intro; apply Exists.intro; apply And.intro; (focus (((repeat (first | ((conv => whnf); (with_reducible refine And.intro ?_ ?_); (focus (first | exact Eq.refl _ | exact trivial | exact Int.natCast_nonneg _ | assumption | exact Nat.le_of_ble_eq_true (Eq.refl true) | decide))))); (conv => whnf)) <;> (exact rfl))); apply And.intro; (focus exact rfl); (conv => whnf))
    ((repeat (first | ((conv => whnf); (with_reducible refine And.intro ?_ ?_); (focus (first | exact Eq.refl _ | exact trivial | exact Int.natCast_nonneg _ | assumption | exact Nat.le_of_ble_eq_true (Eq.refl true) | decide))))); (conv => whnf); apply Exists.intro; apply Exists.intro; apply And.intro; (focus (((repeat (first | ((conv => whnf); (with_reducible refine And.intro ?_ ?_); (focus (first | exact Eq.refl _ | exact trivial | exact Int.natCast_nonneg _ | assumption | exact Nat.le_of_ble_eq_true (Eq.refl true) | decide))))); (conv => whnf)) <;> (exact rfl))); apply And.intro; (focus exact rfl); (conv => whnf))
    (repeat (first | ((conv => whnf); (with_reducible refine And.intro ?_ ?_); (focus (first | exact Eq.refl _ | exact trivial | exact Int.natCast_nonneg _ | assumption | exact Nat.le_of_ble_eq_true (Eq.refl true) | decide))))); (conv => whnf)
    refine branchG_intro false (fun hc12 => ?_) (fun hc12 => ?_)
    · (conv => whnf)
      ((repeat (first | ((conv => whnf); (with_reducible refine And.intro ?_ ?_); (focus (first | exact Eq.refl _ | exact trivial | exact Int.natCast_nonneg _ | assumption | exact Nat.le_of_ble_eq_true (Eq.refl true) | decide))))); (conv => whnf); apply Exists.intro; apply Exists.intro; apply And.intro; (focus (((repeat (first | ((conv => whnf); (with_reducible refine And.intro ?_ ?_); (focus (first | exact Eq.refl _ | exact trivial | exact Int.natCast_nonneg _ | assumption | exact Nat.le_of_ble_eq_true (Eq.refl true) | decide))))); (conv => whnf)) <;> (exact rfl))); apply And.intro; (focus exact rfl); (conv => whnf))
      ((repeat (first | ((conv => whnf); (with_reducible refine And.intro ?_ ?_); (focus (first | exact Eq.refl _ | exact trivial | exact Int.natCast_nonneg _ | assumption | exact Nat.le_of_ble_eq_true (Eq.refl true) | decide))))); (conv => whnf); apply Exists.intro; apply Exists.intro; apply And.intro; (focus (((repeat (first | ((conv => whnf); (with_reducible refine And.intro ?_ ?_); (focus (first | exact Eq.refl _ | exact trivial | exact Int.natCast_nonneg _ | assumption | exact Nat.le_of_ble_eq_true (Eq.refl true) | decide))))); (conv => whnf)) <;> (exact rfl))); apply And.intro; (focus exact rfl); (conv => whnf))
      have hc9 := if_then (by first | assumption | exact Eq.refl _ | simp only [hc12, Bool.and_true, Bool.true_and, Bool.and_false, Bool.false_and, Bool.or_true, Bool.true_or, Bool.or_false, Bool.false_or, Bool.not_true, Bool.not_false, cond_true, cond_false, List.length_map]) hc9
      obtain rfl := some_eq hc9
      ((repeat (first | ((conv => whnf); (with_reducible refine And.intro ?_ ?_); (focus (first | exact Eq.refl _ | exact trivial | exact Int.natCast_nonneg _ | assumption | exact Nat.le_of_ble_eq_true (Eq.refl true) | decide))))); (conv => whnf); apply Exists.intro; apply Exists.intro; apply And.intro; (focus (((repeat (first | ((conv => whnf); (with_reducible refine And.intro ?_ ?_); (focus (first | exact Eq.refl _ | exact trivial | exact Int.natCast_nonneg _ | assumption | exact Nat.le_of_ble_eq_true (Eq.refl true) | decide))))); (conv => whnf)) <;> (exact rfl))); apply And.intro; (focus exact rfl); (conv => whnf))
      ((repeat (first | ((conv => whnf); (with_reducible refine And.intro ?_ ?_); (focus (first | exact Eq.refl _ | exact trivial | exact Int.natCast_nonneg _ | assumption | exact Nat.le_of_ble_eq_true (Eq.refl true) | decide))))); (conv => whnf); apply Exists.intro; apply Exists.intro; apply And.intro; (focus (((repeat (first | ((conv => whnf); (with_reducible refine And.intro ?_ ?_); (focus (first | exact Eq.refl _ | exact trivial | exact Int.natCast_nonneg _ | assumption | exact Nat.le_of_ble_eq_true (Eq.refl true) | decide))))); (conv => whnf)) <;> (exact rfl))); apply And.intro; (focus exact rfl); (conv => whnf))
      have hc11 := if_then (by first | assumption | exact Eq.refl _ | simp only [hc12, Bool.and_true, Bool.true_and, Bool.and_false, Bool.false_and, Bool.or_true, Bool.true_or, Bool.or_false, Bool.false_or, Bool.not_true, Bool.not_false, cond_true, cond_false, List.length_map]) hc11
      obtain rfl := some_eq hc11
      (repeat (first | ((conv => whnf); (with_reducible refine And.intro ?_ ?_); (focus (first | exact Eq.refl _ | exact trivial | exact Int.natCast_nonneg _ | assumption | exact Nat.le_of_ble_eq_true (Eq.refl true) | decide))))); (conv => whnf)
      exact Exists.intro (rn []) (WS.mk (wt_cons wd_ptr (wt_cons wd_ptr (wt_cons wd_ptr (wt_cons (wd_c (we_b (by first | exact Eq.refl _ | simp only [hc12, Bool.and_true, Bool.true_and, Bool.and_false, Bool.false_and, Bool.or_true, Bool.true_or, Bool.or_false, Bool.false_or, Bool.not_true, Bool.not_false, cond_true, cond_false, List.length_map]))) wt_nil)))) (wb_cons rfl (wc_c (WE.refl _) (wc_c (WE.refl _) (wc_c (WE.refl _) (wc_c (WE.refl _) (wc_c (WE.refl _) (wc_c (WE.refl _) wc_nil)))))) (wb_cons rfl (wc_c (WE.refl _) (wc_c (WE.refl _) (wc_c (WE.refl _) (wc_c (WE.refl _) wc_nil)))) (wb_cons rfl (wc_c (WE.refl _) (wc_c (WE.refl _) (wc_c (WE.refl _) (wc_c (WE.refl _) (wc_c (WE.refl _) (wc_c (WE.refl _) wc_nil)))))) wb_nil))))
    · (conv => whnf)
      ((repeat (first | ((conv => whnf); (with_reducible refine And.intro ?_ ?_); (focus (first | exact Eq.refl _ | exact trivial | exact Int.natCast_nonneg _ | assumption | exact Nat.le_of_ble_eq_true (Eq.refl true) | decide))))); (conv => whnf); apply Exists.intro; apply Exists.intro; apply And.intro; (focus (((repeat (first | ((conv => whnf); (with_reducible refine And.intro ?_ ?_); (focus (first | exact Eq.refl _ | exact trivial | exact Int.natCast_nonneg _ | assumption | exact Nat.le_of_ble_eq_true (Eq.refl true) | decide))))); (conv => whnf)) <;> (exact rfl))); apply And.intro; (focus exact rfl); (conv => whnf))
      ((repeat (first | ((conv => whnf); (with_reducible refine And.intro ?_ ?_); (focus (first | exact Eq.refl _ | exact trivial | exact Int.natCast_nonneg _ | assumption | exact Nat.le_of_ble_eq_true (Eq.refl true) | decide))))); (conv => whnf); apply Exists.intro; apply Exists.intro; apply And.intro; (focus (((repeat (first | ((conv => whnf); (with_reducible refine And.intro ?_ ?_); (focus (first | exact Eq.refl _ | exact trivial | exact Int.natCast_nonneg _ | assumption | exact Nat.le_of_ble_eq_true (Eq.refl true) | decide))))); (conv => whnf)) <;> (exact rfl))); apply And.intro; (focus exact rfl); (conv => whnf))
      ((repeat (first | ((conv => whnf); (with_reducible refine And.intro ?_ ?_); (focus (first | exact Eq.refl _ | exact trivial | exact Int.natCast_nonneg _ | assumption | exact Nat.le_of_ble_eq_true (Eq.refl true) | decide))))); (conv => whnf); apply Exists.intro; apply Exists.intro; apply And.intro; (focus (((repeat (first | ((conv => whnf); (with_reducible refine And.intro ?_ ?_); (focus (first | exact Eq.refl _ | exact trivial | exact Int.natCast_nonneg _ | assumption | exact Nat.le_of_ble_eq_true (Eq.refl true) | decide))))); (conv => whnf)) <;> (exact rfl))); apply And.intro; (focus exact rfl); (conv => whnf))
      ((repeat (first | ((conv => whnf); (with_reducible refine And.intro ?_ ?_); (focus (first | exact Eq.refl _ | exact trivial | exact Int.natCast_nonneg _ | assumption | exact Nat.le_of_ble_eq_true (Eq.refl true) | decide))))); (conv => whnf); apply Exists.intro; apply Exists.intro; apply And.intro; (focus (((repeat (first | ((conv => whnf); (with_reducible refine And.intro ?_ ?_); (focus (first | exact Eq.refl _ | exact trivial | exact Int.natCast_nonneg _ | assumption | exact Nat.le_of_ble_eq_true (Eq.refl true) | decide))))); (conv => whnf)) <;> (exact rfl))); apply And.intro; (focus exact rfl); (conv => whnf))
      ((repeat (first | ((conv => whnf); (with_reducible refine And.intro ?_ ?_); (focus (first | exact Eq.refl _ | exact trivial | exact Int.natCast_nonneg _ | assumption | exact Nat.le_of_ble_eq_true (Eq.refl true) | decide))))); (conv => whnf); apply Exists.intro; apply Exists.intro; apply And.intro; (focus (((repeat (first | ((conv => whnf); (with_reducible refine And.intro ?_ ?_); (focus (first | exact Eq.refl _ | exact trivial | exact Int.natCast_nonneg _ | assumption | exact Nat.le_of_ble_eq_true (Eq.refl true) | decide))))); (conv => whnf)) <;> (exact rfl))); apply And.intro; (focus exact rfl); (conv => whnf))
      ((repeat (first | ((conv => whnf); (with_reducible refine And.intro ?_ ?_); (focus (first | exact Eq.refl _ | exact trivial | exact Int.natCast_nonneg _ | assumption | exact Nat.le_of_ble_eq_true (Eq.refl true) | decide))))); (conv => whnf); apply Exists.intro; apply Exists.intro; apply And.intro; (focus (((repeat (first | ((conv => whnf); (with_reducible refine And.intro ?_ ?_); (focus (first | exact Eq.refl _ | exact trivial | exact Int.natCast_nonneg _ | assumption | exact Nat.le_of_ble_eq_true (Eq.refl true) | decide))))); (conv => whnf)) <;> (exact rfl))); apply And.intro; (focus exact rfl); (conv => whnf))
      ((repeat (first | ((conv => whnf); (with_reducible refine And.intro ?_ ?_); (focus (first | exact Eq.refl _ | exact trivial | exact Int.natCast_nonneg _ | assumption | exact Nat.le_of_ble_eq_true (Eq.refl true) | decide))))); (conv => whnf); apply Exists.intro; apply Exists.intro; apply And.intro; (focus (((repeat (first | ((conv => whnf); (with_reducible refine And.intro ?_ ?_); (focus (first | exact Eq.refl _ | exact trivial | exact Int.natCast_nonneg _ | assumption | exact Nat.le_of_ble_eq_true (Eq.refl true) | decide))))); (conv => whnf)) <;> (exact rfl))); apply And.intro; (focus exact rfl); (conv => whnf))
      ((repeat (first | ((conv => whnf); (with_reducible refine And.intro ?_ ?_); (focus (first | exact Eq.refl _ | exact trivial | exact Int.natCast_nonneg _ | assumption | exact Nat.le_of_ble_eq_true (Eq.refl true) | decide))))); (conv => whnf); apply Exists.intro; apply Exists.intro; apply And.intro; (focus (((repeat (first | ((conv => whnf); (with_reducible refine And.intro ?_ ?_); (focus (first | exact Eq.refl _ | exact trivial | exact Int.natCast_nonneg _ | assumption | exact Nat.le_of_ble_eq_true (Eq.refl true) | decide))))); (conv => whnf)) <;> (exact rfl))); apply And.intro; (focus exact rfl); (conv => whnf))
      ((repeat (first | ((conv => whnf); (with_reducible refine And.intro ?_ ?_); (focus (first | exact Eq.refl _ | exact trivial | exact Int.natCast_nonneg _ | assumption | exact Nat.le_of_ble_eq_true (Eq.refl true) | decide))))); (conv => whnf); apply Exists.intro; apply Exists.intro; apply And.intro; (focus (((repeat (first | ((conv => whnf); (with_reducible refine And.intro ?_ ?_); (focus (first | exact Eq.refl _ | exact trivial | exact Int.natCast_nonneg _ | assumption | exact Nat.le_of_ble_eq_true (Eq.refl true) | decide))))); (conv => whnf)) <;> ((intro hlen0; (try rw [List.length_map]))) <;> ((repeat (first | ((conv => whnf); (with_reducible refine And.intro ?_ ?_); (focus (first | exact Eq.refl _ | exact trivial | exact Int.natCast_nonneg _ | assumption | exact Nat.le_of_ble_eq_true (Eq.refl true) | decide))))); (conv => whnf)) <;> (exact rfl))); apply And.intro; (focus exact rfl); (conv => whnf))
      ((repeat (first | ((conv => whnf); (with_reducible refine And.intro ?_ ?_); (focus (first | exact Eq.refl _ | exact trivial | exact Int.natCast_nonneg _ | assumption | exact Nat.le_of_ble_eq_true (Eq.refl true) | decide))))); (conv => whnf); apply Exists.intro; apply Exists.intro; apply And.intro; (focus (((repeat (first | ((conv => whnf); (with_reducible refine And.intro ?_ ?_); (focus (first | exact Eq.refl _ | exact trivial | exact Int.natCast_nonneg _ | assumption | exact Nat.le_of_ble_eq_true (Eq.refl true) | decide))))); (conv => whnf)) <;> (exact rfl))); apply And.intro; (focus exact rfl); (conv => whnf))
      ((repeat (first | ((conv => whnf); (with_reducible refine And.intro ?_ ?_); (focus (first | exact Eq.refl _ | exact trivial | exact Int.natCast_nonneg _ | assumption | exact Nat.le_of_ble_eq_true (Eq.refl true) | decide))))); (conv => whnf); apply Exists.intro; apply Exists.intro; apply And.intro; (focus (((repeat (first | ((conv => whnf); (with_reducible refine And.intro ?_ ?_); (focus (first | exact Eq.refl _ | exact trivial | exact Int.natCast_nonneg _ | assumption | exact Nat.le_of_ble_eq_true (Eq.refl true) | decide))))); (conv => whnf)) <;> (exact rfl))); apply And.intro; (focus exact rfl); (conv => whnf))
      ((repeat (first | ((conv => whnf); (with_reducible refine And.intro ?_ ?_); (focus (first | exact Eq.refl _ | exact trivial | exact Int.natCast_nonneg _ | assumption | exact Nat.le_of_ble_eq_true (Eq.refl true) | decide))))); (conv => whnf); apply Exists.intro; apply Exists.intro; apply And.intro; (focus (((repeat (first | ((conv => whnf); (with_reducible refine And.intro ?_ ?_); (focus (first | exact Eq.refl _ | exact trivial | exact Int.natCast_nonneg _ | assumption | exact Nat.le_of_ble_eq_true (Eq.refl true) | decide))))); (conv => whnf)) <;> (exact rfl))); apply And.intro; (focus exact rfl); (conv => whnf))
      (repeat (first | ((conv => whnf); (with_reducible refine And.intro ?_ ?_); (focus (first | exact Eq.refl _ | exact trivial | exact Int.natCast_nonneg _ | assumption | exact Nat.le_of_ble_eq_true (Eq.refl true) | decide))))); (conv => whnf)
      refine branchG_intro false (fun hc13 => ?_) (fun hc13 => ?_)
      · have hc9 := if_then (by first | assumption | exact Eq.refl _ | simp only [hc12, hc13, Bool.and_true, Bool.true_and, Bool.and_false, Bool.false_and, Bool.or_true, Bool.true_or, Bool.or_false, Bool.false_or, Bool.not_true, Bool.not_false, cond_true, cond_false, List.length_map]) hc9
        (conv => whnf)
        obtain rfl := some_eq hc9
        ((repeat (first | ((conv => whnf); (with_reducible refine And.intro ?_ ?_); (focus (first | exact Eq.refl _ | exact trivial | exact Int.natCast_nonneg _ | assumption | exact Nat.le_of_ble_eq_true (Eq.refl true) | decide))))); (conv => whnf); apply Exists.intro; apply Exists.intro; apply And.intro; (focus (((repeat (first | ((conv => whnf); (with_reducible refine And.intro ?_ ?_); (focus (first | exact Eq.refl _ | exact trivial | exact Int.natCast_nonneg _ | assumption | exact Nat.le_of_ble_eq_true (Eq.refl true) | decide))))); (conv => whnf)) <;> (exact rfl))); apply And.intro; (focus exact rfl); (conv => whnf))
        ((repeat (first | ((conv => whnf); (with_reducible refine And.intro ?_ ?_); (focus (first | exact Eq.refl _ | exact trivial | exact Int.natCast_nonneg _ | assumption | exact Nat.le_of_ble_eq_true (Eq.refl true) | decide))))); (conv => whnf); apply Exists.intro; apply Exists.intro; apply And.intro; (focus (((repeat (first | ((conv => whnf); (with_reducible refine And.intro ?_ ?_); (focus (first | exact Eq.refl _ | exact trivial | exact Int.natCast_nonneg _ | assumption | exact Nat.le_of_ble_eq_true (Eq.refl true) | decide))))); (conv => whnf)) <;> (exact rfl))); apply And.intro; (focus exact rfl); (conv => whnf))
        have hc11 := if_then (by first | assumption | exact Eq.refl _ | simp only [hc12, hc13, Bool.and_true, Bool.true_and, Bool.and_false, Bool.false_and, Bool.or_true, Bool.true_or, Bool.or_false, Bool.false_or, Bool.not_true, Bool.not_false, cond_true, cond_false, List.length_map]) hc11
        obtain rfl := some_eq hc11
        (repeat (first | ((conv => whnf); (with_reducible refine And.intro ?_ ?_); (focus (first | exact Eq.refl _ | exact trivial | exact Int.natCast_nonneg _ | assumption | exact Nat.le_of_ble_eq_true (Eq.refl true) | decide))))); (conv => whnf)
        exact Exists.intro (rn []) (WS.mk (wt_cons wd_ptr (wt_cons wd_ptr (wt_cons wd_ptr (wt_cons (wd_c (we_b (by first | exact Eq.refl _ | simp only [hc12, hc13, Bool.and_true, Bool.true_and, Bool.and_false, Bool.false_and, Bool.or_true, Bool.true_or, Bool.or_false, Bool.false_or, Bool.not_true, Bool.not_false, cond_true, cond_false, List.length_map]))) wt_nil)))) (wb_cons rfl (wc_c (WE.refl _) (wc_c (WE.refl _) (wc_c (WE.refl _) (wc_c (WE.refl _) (wc_c (WE.refl _) (wc_c (WE.refl _) wc_nil)))))) (wb_cons rfl (wc_c (WE.refl _) (wc_c (WE.refl _) (wc_c (WE.refl _) (wc_c (WE.refl _) wc_nil)))) (wb_cons rfl (wc_c (WE.refl _) (wc_c (WE.refl _) (wc_c (WE.refl _) (wc_c (WE.refl _) (wc_c (WE.refl _) (wc_c (WE.refl _) wc_nil)))))) wb_nil))))
      · have hc9 := if_else (by first | assumption | exact Eq.refl _ | simp only [hc12, hc13, Bool.and_true, Bool.true_and, Bool.and_false, Bool.false_and, Bool.or_true, Bool.true_or, Bool.or_false, Bool.false_or, Bool.not_true, Bool.not_false, cond_true, cond_false, List.length_map]) hc9
        obtain ⟨r8, hr8, hc9⟩ := bind_some hc9
        (conv => whnf)
        ((repeat (first | ((conv => whnf); (with_reducible refine And.intro ?_ ?_); (focus (first | exact Eq.refl _ | exact trivial | exact Int.natCast_nonneg _ | assumption | exact Nat.le_of_ble_eq_true (Eq.refl true) | decide))))); (conv => whnf); apply Exists.intro; apply Exists.intro; apply And.intro; (focus (((repeat (first | ((conv => whnf); (with_reducible refine And.intro ?_ ?_); (focus (first | exact Eq.refl _ | exact trivial | exact Int.natCast_nonneg _ | assumption | exact Nat.le_of_ble_eq_true (Eq.refl true) | decide))))); (conv => whnf)) <;> (exact rfl))); apply And.intro; (focus exact rfl); (conv => whnf))
        ((repeat (first | ((conv => whnf); (with_reducible refine And.intro ?_ ?_); (focus (first | exact Eq.refl _ | exact trivial | exact Int.natCast_nonneg _ | assumption | exact Nat.le_of_ble_eq_true (Eq.refl true) | decide))))); (conv => whnf); apply Exists.intro; apply Exists.intro; apply And.intro; (focus ((conv => whnf); refine And.intro rfl ?_; (conv => whnf); refine CallsX.mono (CallsX.weak (rn []) (values_Check_ok r2.1 _ hr8) rfl (WS.mk (wt_cons (wd_agg (wl_cons (WE.refl _) (wl_cons (WE.refl _) (wl_cons (WE.refl _) (wl_cons (WE.refl _) (wl_cons (WE.refl _) (wl_cons (WE.refl _) wl_nil))))))) wt_nil) wb_nil)) ?_; rintro d b ⟨rfl, rfl⟩; exact And.intro rfl rfl)); apply And.intro; (focus exact rfl); (conv => whnf))
        ((repeat (first | ((conv => whnf); (with_reducible refine And.intro ?_ ?_); (focus (first | exact Eq.refl _ | exact trivial | exact Int.natCast_nonneg _ | assumption | exact Nat.le_of_ble_eq_true (Eq.refl true) | decide))))); (conv => whnf); apply Exists.intro; apply Exists.intro; apply And.intro; (focus (((repeat (first | ((conv => whnf); (with_reducible refine And.intro ?_ ?_); (focus (first | exact Eq.refl _ | exact trivial | exact Int.natCast_nonneg _ | assumption | exact Nat.le_of_ble_eq_true (Eq.refl true) | decide))))); (conv => whnf)) <;> (exact rfl))); apply And.intro; (focus exact rfl); (conv => whnf))
        obtain rfl := some_eq hc9
        ((repeat (first | ((conv => whnf); (with_reducible refine And.intro ?_ ?_); (focus (first | exact Eq.refl _ | exact trivial | exact Int.natCast_nonneg _ | assumption | exact Nat.le_of_ble_eq_true (Eq.refl true) | decide))))); (conv => whnf); apply Exists.intro; apply Exists.intro; apply And.intro; (focus (((repeat (first | ((conv => whnf); (with_reducible refine And.intro ?_ ?_); (focus (first | exact Eq.refl _ | exact trivial | exact Int.natCast_nonneg _ | assumption | exact Nat.le_of_ble_eq_true (Eq.refl true) | decide))))); (conv => whnf)) <;> (exact rfl))); apply And.intro; (focus exact rfl); (conv => whnf))
        ((repeat (first | ((conv => whnf); (with_reducible refine And.intro ?_ ?_); (focus (first | exact Eq.refl _ | exact trivial | exact Int.natCast_nonneg _ | assumption | exact Nat.le_of_ble_eq_true (Eq.refl true) | decide))))); (conv => whnf); apply Exists.intro; apply Exists.intro; apply And.intro; (focus (((repeat (first | ((conv => whnf); (with_reducible refine And.intro ?_ ?_); (focus (first | exact Eq.refl _ | exact trivial | exact Int.natCast_nonneg _ | assumption | exact Nat.le_of_ble_eq_true (Eq.refl true) | decide))))); (conv => whnf)) <;> (exact rfl))); apply And.intro; (focus exact rfl); (conv => whnf))
        (repeat (first | ((conv => whnf); (with_reducible refine And.intro ?_ ?_); (focus (first | exact Eq.refl _ | exact trivial | exact Int.natCast_nonneg _ | assumption | exact Nat.le_of_ble_eq_true (Eq.refl true) | decide))))); (conv => whnf)
        refine branchG_intro false (fun hc14 => ?_) (fun hc14 => ?_)
        · have hc11 := if_then (by first | assumption | exact Eq.refl _ | simp only [hc12, hc13, hc14, Bool.and_true, Bool.true_and, Bool.and_false, Bool.false_and, Bool.or_true, Bool.true_or, Bool.or_false, Bool.false_or, Bool.not_true, Bool.not_false, cond_true, cond_false, List.length_map]) hc11
          (conv => whnf)
          obtain rfl := some_eq hc11
          (repeat (first | ((conv => whnf); (with_reducible refine And.intro ?_ ?_); (focus (first | exact Eq.refl _ | exact trivial | exact Int.natCast_nonneg _ | assumption | exact Nat.le_of_ble_eq_true (Eq.refl true) | decide))))); (conv => whnf)
          exact Exists.intro (rn []) (WS.mk (wt_cons wd_ptr (wt_cons wd_ptr (wt_cons wd_ptr (wt_cons (wd_c (we_b (by first | exact Eq.refl _ | simp only [hc12, hc13, hc14, Bool.and_true, Bool.true_and, Bool.and_false, Bool.false_and, Bool.or_true, Bool.true_or, Bool.or_false, Bool.false_or, Bool.not_true, Bool.not_false, cond_true, cond_false, List.length_map]))) wt_nil)))) (wb_cons rfl (wc_c (WE.refl _) (wc_c (WE.refl _) (wc_c (WE.refl _) (wc_c (WE.refl _) (wc_c (WE.refl _) (wc_c (WE.refl _) wc_nil)))))) (wb_cons rfl (wc_c (WE.refl _) (wc_c (WE.refl _) (wc_c (WE.refl _) (wc_c (WE.refl _) wc_nil)))) (wb_cons rfl (wc_c (WE.refl _) (wc_c (WE.refl _) (wc_c (WE.refl _) (wc_c (WE.refl _) (wc_c (WE.refl _) (wc_c (WE.refl _) wc_nil)))))) wb_nil))))
        · have hc11 := if_else (by first | assumption | exact Eq.refl _ | simp only [hc12, hc13, hc14, Bool.and_true, Bool.true_and, Bool.and_false, Bool.false_and, Bool.or_true, Bool.true_or, Bool.or_false, Bool.false_or, Bool.not_true, Bool.not_false, cond_true, cond_false, List.length_map]) hc11
          obtain ⟨r10, hr10, hc11⟩ := bind_some hc11
          (conv => whnf)
          ((repeat (first | ((conv => whnf); (with_reducible refine And.intro ?_ ?_); (focus (first | exact Eq.refl _ | exact trivial | exact Int.natCast_nonneg _ | assumption | exact Nat.le_of_ble_eq_true (Eq.refl true) | decide))))); (conv => whnf); apply Exists.intro; apply Exists.intro; apply And.intro; (focus (((repeat (first | ((conv => whnf); (with_reducible refine And.intro ?_ ?_); (focus (first | exact Eq.refl _ | exact trivial | exact Int.natCast_nonneg _ | assumption | exact Nat.le_of_ble_eq_true (Eq.refl true) | decide))))); (conv => whnf)) <;> (exact rfl))); apply And.intro; (focus exact rfl); (conv => whnf))
          ((repeat (first | ((conv => whnf); (with_reducible refine And.intro ?_ ?_); (focus (first | exact Eq.refl _ | exact trivial | exact Int.natCast_nonneg _ | assumption | exact Nat.le_of_ble_eq_true (Eq.refl true) | decide))))); (conv => whnf); apply Exists.intro; apply Exists.intro; apply And.intro; (focus ((conv => whnf); refine And.intro rfl ?_; (conv => whnf); refine CallsX.mono (CallsX.weak (rn []) (values_Print_ok r2.1 _ hr10) rfl (WS.mk (wt_cons (wd_agg (wl_cons (WE.refl _) (wl_cons (WE.refl _) (wl_cons (WE.refl _) (wl_cons (WE.refl _) (wl_cons (WE.refl _) (wl_cons (WE.refl _) wl_nil))))))) wt_nil) wb_nil)) ?_; rintro d b ⟨rfl, rfl⟩; exact And.intro rfl rfl)); apply And.intro; (focus exact rfl); (conv => whnf))
          ((repeat (first | ((conv => whnf); (with_reducible refine And.intro ?_ ?_); (focus (first | exact Eq.refl _ | exact trivial | exact Int.natCast_nonneg _ | assumption | exact Nat.le_of_ble_eq_true (Eq.refl true) | decide))))); (conv => whnf); apply Exists.intro; apply Exists.intro; apply And.intro; (focus (((repeat (first | ((conv => whnf); (with_reducible refine And.intro ?_ ?_); (focus (first | exact Eq.refl _ | exact trivial | exact Int.natCast_nonneg _ | assumption | exact Nat.le_of_ble_eq_true (Eq.refl true) | decide))))); (conv => whnf)) <;> (exact rfl))); apply And.intro; (focus exact rfl); (conv => whnf))
          obtain rfl := some_eq hc11
          (repeat (first | ((conv => whnf); (with_reducible refine And.intro ?_ ?_); (focus (first | exact Eq.refl _ | exact trivial | exact Int.natCast_nonneg _ | assumption | exact Nat.le_of_ble_eq_true (Eq.refl true) | decide))))); (conv => whnf)
          exact Exists.intro (rn []) (WS.mk (wt_cons wd_ptr (wt_cons wd_ptr (wt_cons wd_ptr (wt_cons (wd_c (we_b (by first | exact Eq.refl _ | simp only [hc12, hc13, hc14, Bool.and_true, Bool.true_and, Bool.and_false, Bool.false_and, Bool.or_true, Bool.true_or, Bool.or_false, Bool.false_or, Bool.not_true, Bool.not_false, cond_true, cond_false, List.length_map]))) wt_nil)))) (wb_cons rfl (wc_c (WE.refl _) (wc_c (WE.refl _) (wc_c (WE.refl _) (wc_c (WE.refl _) (wc_c (WE.refl _) (wc_c (WE.refl _) wc_nil)))))) (wb_cons rfl (wc_c (WE.refl _) (wc_c (WE.refl _) (wc_c (WE.refl _) (wc_c (WE.refl _) wc_nil)))) (wb_cons rfl (wc_c (WE.refl _) (wc_c (WE.refl _) (wc_c (WE.refl _) (wc_c (WE.refl _) (wc_c (WE.refl _) (wc_c (WE.refl _) wc_nil)))))) wb_nil))))
  obtain ⟨r0, hw⟩ := hw
  (conv => whnf)
  refine AWP.weak r0 hw ?_
  refine nd (by decide) _ _ _ ?_
  (conv => whnf)
  refine branch_hF hF (fun hc15 hF => ?_) (fun hc15 hF => ?_)
  · refine AWP.seq ?_
    refine nd (by decide) _ _ _ ?_
    (repeat (first | ((conv => whnf); (with_reducible refine And.intro ?_ ?_); (focus (first | exact Eq.refl _ | exact trivial | exact Int.natCast_nonneg _ | assumption | exact Nat.le_of_ble_eq_true (Eq.refl true) | decide))))); (conv => whnf)
    obtain rfl := some_eq hF
    refine nd (by decide) _ _ _ ?_
    (repeat (first | ((conv => whnf); (with_reducible refine And.intro ?_ ?_); (focus (first | exact Eq.refl _ | exact trivial | exact Int.natCast_nonneg _ | assumption | exact Nat.le_of_ble_eq_true (Eq.refl true) | decide))))); (conv => whnf)
    exact Exists.intro (rn []) (WS.mk (wt_cons (wd_tup (wx_agg (wl_cons (WE.refl _) (wl_cons (WE.refl _) (wl_cons (WE.refl _) (wl_cons WE.nil (wl_cons (WE.refl _) (wl_cons WE.nil wl_nil)))))) (wx_agg (wl_cons (WE.refl _) (wl_cons (WE.refl _) (wl_cons (WE.refl _) (wl_cons (WE.refl _) wl_nil)))) wx_nil))) wt_nil) wb_nil)
  · refine nd (by decide) _ _ _ ?_
    (conv => whnf)
    refine AWP.seq ?_
    refine nd (by decide) _ _ _ ?_
    (repeat (first | ((conv => whnf); (with_reducible refine And.intro ?_ ?_); (focus (first | exact Eq.refl _ | exact trivial | exact Int.natCast_nonneg _ | assumption | exact Nat.le_of_ble_eq_true (Eq.refl true) | decide))))); (conv => whnf)
    obtain rfl := some_eq hF
    refine nd (by decide) _ _ _ ?_
    (repeat (first | ((conv => whnf); (with_reducible refine And.intro ?_ ?_); (focus (first | exact Eq.refl _ | exact trivial | exact Int.natCast_nonneg _ | assumption | exact Nat.le_of_ble_eq_true (Eq.refl true) | decide))))); (conv => whnf)
    exact Exists.intro (rn []) (WS.mk (wt_cons (wd_tup (wx_agg (wl_cons (WE.refl _) (wl_cons (WE.refl _) (wl_cons (WE.refl _) (wl_cons (WE.refl _) (wl_cons (WE.refl _) (wl_cons (WE.refl _) wl_nil)))))) (wx_agg (wl_cons (WE.refl _) (wl_cons (WE.refl _) (wl_cons (WE.refl _) (wl_cons (WE.refl _) wl_nil)))) wx_nil))) wt_nil) wb_nil)
end Go.Proofs.YtafniolcakiljaaDoor

set_option linter.unusedVariables false
set_option linter.unusedSimpArgs false
set_option maxRecDepth 100000
set_option maxHeartbeats 4000000
namespace Go.Proofs.YtafniolcakiljaaDoor
open Go Go.Am
mutual
def values_copied (v : TValue) : Option (TValue) :=
  slices_Clone_Exc v.fSet.fList >>= fun r1 =>
  values_copied_l1 v 0 ([]) r1 v.fKids
  partial_fixpoint
def values_copied_l1 (v : TValue) (x_17 : Nat) (v_1_3 : (List TValue)) (r1 : ((List TExc))) (x_17_s_ : (List TValue)) : Option (TValue) :=
  (match x_17_s_ with
  | x30 :: xs31 =>
  values_copied x30 >>= fun r33 =>
  guardP ((v_1_3.length + ([r33]).length) * 88 ≤ 140737488355328) >>= fun _ =>
  values_copied_l1 v (x_17 + 1) (v_1_3 ++ ([r33])) r1 xs31
  | [] =>
  some (TValue.mk v.fOp v.fName v.fN v_1_3 (TExcSet.mk v.fSet.fAll r1)))
  partial_fixpoint
end
def values_copied.M (v : TValue) (r : TValue) : Prop :=
  CallsX Tryd.prog 44 [.agg [.v (.int .i64 v.fOp), .v (.string v.fName), .v (.int .i64 v.fN), .sl (v.fKids.map TValue.cells), .v (.bool v.fSet.fAll), .sl (v.fSet.fList.map TExc.cells)]] [] (fun d b => d = .agg [.v (.int .i64 r.fOp), .v (.string r.fName), .v (.int .i64 r.fN), .sl (r.fKids.map TValue.cells), .v (.bool r.fSet.fAll), .sl (r.fSet.fList.map TExc.cells)] ∧ b = [])
def values_copied_l1.M (v : TValue) (x_17 : Nat) (v_1_3 : (List TValue)) (r1 : ((List TExc))) (x_17_s_ : (List TValue)) (r : TValue) : Prop :=
  ∀ pre_x_17 : List TValue, v.fKids = pre_x_17 ++ x_17_s_ → x_17 = pre_x_17.length → v.fKids.length ≤ maxLen → AWL Tryd.prog 30 (Code.sub (bodyOf Tryd.f44) [1, 1, 1, 1, 0, 1, 0, 0]) (Code.cont Tryd.prog 30 (bodyOf Tryd.f44) [1, 1, 1, 1, 0, 1, 0] (endK tab Tryd.f44.results [] (WRes (.agg [.v (.int .i64 r.fOp), .v (.string r.fName), .v (.int .i64 r.fN), .sl (r.fKids.map TValue.cells), .v (.bool r.fSet.fAll), .sl (r.fSet.fList.map TExc.cells)]) []))) ⟨[(1, .ptr 1 0), (2, .ptr 2 0), (15, .c none (.sl (v.fKids.map TValue.cells))), (16, .c none (.v (.int .i64 ((v.fKids.length : Nat) : Int)))), (17, .c none (.v (.int .i64 ((x_17 : Nat) : Int))))], [(1, [(none, .v (.int .i64 v.fOp)), (none, .v (.string v.fName)), (none, .v (.int .i64 v.fN)), ((some (4053, 28)), .sl (v_1_3.map TValue.cells)), (none, .v (.bool v.fSet.fAll)), ((some (4055, 41)), .sl (r1.map TExc.cells))]), (2, [(none, .v (.int .i64 0)), (none, .v (.string (ByteArray.mk #[]))), (none, .v (.int .i64 0)), (none, .nils), (none, .v (.bool false)), (none, .nils)])]⟩
theorem values_copied_all : (∀ (v : TValue), ∀ r, values_copied v = some r → values_copied.M v r) ∧ (∀ (v : TValue) (x_17 : Nat) (v_1_3 : (List TValue)) (r1 : ((List TExc))) (x_17_s_ : (List TValue)), ∀ r, values_copied_l1 v x_17 v_1_3 r1 x_17_s_ = some r → values_copied_l1.M v x_17 v_1_3 r1 x_17_s_ r) := by
  refine values_copied.mutual_partial_correctness values_copied.M values_copied_l1.M ?_ ?_
  · intro values_copied_l1' ih_values_copied_l1 v r hF
    unfold values_copied.M
    refine enter tabOk Tryd.func44 rfl (by decide) (Nat.le_of_ble_eq_true rfl) rfl rfl rfl ?_
    refine AWP.seq ?_
    refine nd (by decide) _ _ _ ?_
    (repeat (first | ((conv => whnf); (with_reducible refine And.intro ?_ ?_); (focus (first | exact Eq.refl _ | exact trivial | exact Int.natCast_nonneg _ | assumption | exact Nat.le_of_ble_eq_true (Eq.refl true) | decide))))); (conv => whnf)
    refine AWP.seq ?_
    obtain ⟨r1, hr1, hF⟩ := bind_some hF
    refine nd (by decide) _ _ _ ?_
    (repeat (first | ((conv => whnf); (with_reducible refine And.intro ?_ ?_); (focus (first | exact Eq.refl _ | exact trivial | exact Int.natCast_nonneg _ | assumption | exact Nat.le_of_ble_eq_true (Eq.refl true) | decide))))); (conv => whnf)
    refine Exists.intro [] ?_
    (repeat (first | ((conv => whnf); (with_reducible refine And.intro ?_ ?_); (focus (first | exact Eq.refl _ | exact trivial | exact Int.natCast_nonneg _ | assumption | exact Nat.le_of_ble_eq_true (Eq.refl true) | decide))))); (conv => whnf)
    refine CallsX.mono (CallsX.weak (rn []) (slices_Clone_Exc_ok v.fSet.fList _ hr1) rfl (WS.mk (wt_cons (wd_c (WE.refl _)) wt_nil) wb_nil)) ?_
    rintro d b ⟨rfl, rfl⟩
    (repeat (first | ((conv => whnf); (with_reducible refine And.intro ?_ ?_); (focus (first | exact Eq.refl _ | exact trivial | exact Int.natCast_nonneg _ | assumption | exact Nat.le_of_ble_eq_true (Eq.refl true) | decide))))); (conv => whnf)
    (repeat (first | ((conv => whnf); (with_reducible refine And.intro ?_ ?_); (focus (first | exact Eq.refl _ | exact trivial | exact Int.natCast_nonneg _ | assumption | exact Nat.le_of_ble_eq_true (Eq.refl true) | decide))))); (conv => whnf)
    refine AWP.seq ?_
    refine nd (by decide) _ _ _ ?_
    (repeat (first | ((conv => whnf); (with_reducible refine And.intro ?_ ?_); (focus (first | exact Eq.refl _ | exact trivial | exact Int.natCast_nonneg _ | assumption | exact Nat.le_of_ble_eq_true (Eq.refl true) | decide))))); (conv => whnf)
    refine AWP.seq ?_
    refine nd (by decide) _ _ _ ?_
    (repeat (first | ((conv => whnf); (with_reducible refine And.intro ?_ ?_); (focus (first | exact Eq.refl _ | exact trivial | exact Int.natCast_nonneg _ | assumption | exact Nat.le_of_ble_eq_true (Eq.refl true) | decide))))); (conv => whnf)
    refine AWP.seq ?_
    refine AWP.seq ?_
    refine nd (by decide) _ _ _ ?_
    (repeat (first | ((conv => whnf); (with_reducible refine And.intro ?_ ?_); (focus (first | exact Eq.refl _ | exact trivial | exact Int.natCast_nonneg _ | assumption | exact Nat.le_of_ble_eq_true (Eq.refl true) | decide))))); (conv => whnf)
    intro hlen18
    (try rw [List.length_map] at hlen18)
    (try rw [List.length_map])
    (repeat (first | ((conv => whnf); (with_reducible refine And.intro ?_ ?_); (focus (first | exact Eq.refl _ | exact trivial | exact Int.natCast_nonneg _ | assumption | exact Nat.le_of_ble_eq_true (Eq.refl true) | decide))))); (conv => whnf)
    refine AWP.block ?_
    refine AWP.loop ?_
    refine AWL.weak (rn [(9, 4055)]) ?_ (ih_values_copied_l1 v 0 ([]) r1 v.fKids _ hF ([]) rfl rfl hlen18)
    exact (WS.mk (wt_cons wd_ptr (wt_cons wd_ptr (wt_cons (wd_c (WE.refl _)) (wt_cons (wd_c (WE.refl _)) (wt_cons (wd_c (WE.refl _)) wt_nil))))) (wb_cons rfl (wc_c (WE.refl _) (wc_c (WE.refl _) (wc_c (WE.refl _) (wc_nilown (wc_c (WE.refl _) (wc_own rfl (WE.refl _) wc_nil)))))) (wb_cons rfl (wc_c (WE.refl _) (wc_c (WE.refl _) (wc_c (WE.refl _) (wc_c (WE.refl _) (wc_c (WE.refl _) (wc_c (WE.refl _) wc_nil)))))) wb_nil)))
  · intro values_copied' values_copied_l1' ih_values_copied ih_values_copied_l1 v x_17 v_1_3 r1 x_17_s_ r hF
    unfold values_copied_l1.M
    intro pre_x_17 hs_x_17 hk_x_17 hlen18
    refine AWL.step ?_
    refine AWP.seq ?_
    refine nd (by decide) _ _ _ ?_
    (repeat (first | ((conv => whnf); (with_reducible refine And.intro ?_ ?_); (focus (first | exact Eq.refl _ | exact trivial | exact Int.natCast_nonneg _ | assumption | exact Nat.le_of_ble_eq_true (Eq.refl true) | decide))))); (conv => whnf)
    refine AWP.seq ?_
    refine nd (by decide) _ _ _ ?_
    (conv => whnf)
    refine branch_list hs_x_17 hk_x_17 (fun x30 xs31 hp32 hx32 hl32 => ?_) (fun hp32 => ?_)
    · subst hp32
      refine nd (by decide) _ _ _ ?_
      (conv => whnf)
      refine AWP.seq ?_
      refine AWP.block ?_
      refine AWP.seq ?_
      refine nd (by decide) _ _ _ ?_
      (repeat (first | ((conv => whnf); (with_reducible refine And.intro ?_ ?_); (focus (first | exact Eq.refl _ | exact trivial | exact Int.natCast_nonneg _ | assumption | exact Nat.le_of_ble_eq_true (Eq.refl true) | decide))) | ((conv => whnf); rw [map_get (TValue.cells_eq x30) hx32]))); (conv => whnf)
      (repeat (first | ((conv => whnf); (with_reducible refine And.intro ?_ ?_); (focus (first | exact Eq.refl _ | exact trivial | exact Int.natCast_nonneg _ | assumption | exact Nat.le_of_ble_eq_true (Eq.refl true) | decide))))); (conv => whnf)
      obtain ⟨r33, hr33, hF⟩ := bind_some hF
      obtain ⟨hg34, hF⟩ := guard_some hF
      refine nd (by decide) _ _ _ ?_
      refine Exists.intro 5 (Exists.intro [[], [], [], [], []] (Exists.intro [([21, 22, 23, 24, 25], [], []), ([22, 23, 24, 25], [], []), ([21, 22, 23, 24, 25], [], []), ([21, 22, 24, 25], [], []), ([21, 22, 25], [], [])] (Exists.intro [21, 22, 23, 24, 25] (And.intro (by decide +kernel) ?_))))
      ((repeat (first | ((conv => whnf); (with_reducible refine And.intro ?_ ?_); (focus (first | exact Eq.refl _ | exact trivial | exact Int.natCast_nonneg _ | assumption | exact Nat.le_of_ble_eq_true (Eq.refl true) | decide))))); (conv => whnf); apply Exists.intro; apply Exists.intro; apply And.intro; (focus (((repeat (first | ((conv => whnf); (with_reducible refine And.intro ?_ ?_); (focus (first | exact Eq.refl _ | exact trivial | exact Int.natCast_nonneg _ | assumption | exact Nat.le_of_ble_eq_true (Eq.refl true) | decide))))); (conv => whnf)) <;> (exact rfl))); apply And.intro; (focus exact rfl); (conv => whnf))
      ((repeat (first | ((conv => whnf); (with_reducible refine And.intro ?_ ?_); (focus (first | exact Eq.refl _ | exact trivial | exact Int.natCast_nonneg _ | assumption | exact Nat.le_of_ble_eq_true (Eq.refl true) | decide))))); (conv => whnf); apply Exists.intro; apply Exists.intro; apply And.intro; (focus (((repeat (first | ((conv => whnf); (with_reducible refine And.intro ?_ ?_); (focus (first | exact Eq.refl _ | exact trivial | exact Int.natCast_nonneg _ | assumption | exact Nat.le_of_ble_eq_true (Eq.refl true) | decide))))); (conv => whnf)) <;> (exact rfl))); apply And.intro; (focus exact rfl); (conv => whnf))
      ((repeat (first | ((conv => whnf); (with_reducible refine And.intro ?_ ?_); (focus (first | exact Eq.refl _ | exact trivial | exact Int.natCast_nonneg _ | assumption | exact Nat.le_of_ble_eq_true (Eq.refl true) | decide))))); (conv => whnf); apply Exists.intro; apply Exists.intro; apply And.intro; (focus (((repeat (first | ((conv => whnf); (with_reducible refine And.intro ?_ ?_); (focus (first | exact Eq.refl _ | exact trivial | exact Int.natCast_nonneg _ | assumption | exact Nat.le_of_ble_eq_true (Eq.refl true) | decide))))); (conv => whnf)) <;> (exact rfl))); apply And.intro; (focus exact rfl); (conv => whnf))
      ((repeat (first | ((conv => whnf); (with_reducible refine And.intro ?_ ?_); (focus (first | exact Eq.refl _ | exact trivial | exact Int.natCast_nonneg _ | assumption | exact Nat.le_of_ble_eq_true (Eq.refl true) | decide))))); (conv => whnf); apply Exists.intro; apply Exists.intro; apply And.intro; (focus ((conv => whnf); refine And.intro rfl ?_; (conv => whnf); refine CallsX.mono (CallsX.weak (rn []) (ih_values_copied x30 _ hr33) rfl (WS.mk (wt_cons (wd_agg (wl_cons (WE.refl _) (wl_cons (WE.refl _) (wl_cons (WE.refl _) (wl_cons (WE.refl _) (wl_cons (WE.refl _) (wl_cons (WE.refl _) wl_nil))))))) wt_nil) wb_nil)) ?_; rintro d b ⟨rfl, rfl⟩; exact And.intro rfl rfl)); apply And.intro; (focus exact rfl); (conv => whnf))
      ((repeat (first | ((conv => whnf); (with_reducible refine And.intro ?_ ?_); (focus (first | exact Eq.refl _ | exact trivial | exact Int.natCast_nonneg _ | assumption | exact Nat.le_of_ble_eq_true (Eq.refl true) | decide))))); (conv => whnf); apply Exists.intro; apply Exists.intro; apply And.intro; (focus (((repeat (first | ((conv => whnf); (with_reducible refine And.intro ?_ ?_); (focus (first | exact Eq.refl _ | exact trivial | exact Int.natCast_nonneg _ | assumption | exact Nat.le_of_ble_eq_true (Eq.refl true) | decide))))); (conv => whnf)) <;> (refine Exists.intro _ (And.intro (we_rows (f := TValue.cells) (wl_eq (TValue.cells_eq r33) (wl_cons (WE.refl _) (wl_cons (WE.refl _) (wl_cons (WE.refl _) (wl_cons (WE.refl _) (wl_cons (WE.refl _) (wl_cons (WE.refl _) wl_nil))))))) (we_rows_nil (f := TValue.cells))) ?_)) <;> ((repeat (first | ((conv => whnf); (with_reducible refine And.intro ?_ ?_); (focus (first | exact Eq.refl _ | exact trivial | exact Int.natCast_nonneg _ | assumption | exact Nat.le_of_ble_eq_true (Eq.refl true) | decide))))); (conv => whnf)) <;> (exact rfl))); apply And.intro; (focus exact rfl); (conv => whnf))
      (repeat (first | ((conv => whnf); (with_reducible refine And.intro ?_ ?_); (focus (first | exact Eq.refl _ | exact trivial | exact Int.natCast_nonneg _ | assumption | exact Nat.le_of_ble_eq_true (Eq.refl true) | decide))))); (conv => whnf)
      refine And.intro (by first | exact rows_map _ (fun x => TValue.cells_len x) | exact rows_nil) (And.intro (by first | exact rows_map _ (fun x => TValue.cells_len x) | exact rows_nil) (And.intro (by have h := hg34; simp only [List.length_map, List.length_append, List.length_cons, List.length_nil, Nat.zero_add] at h ⊢; first | exact h | (unfold maxLen; omega) | omega) (And.intro (by have h := hg34; simp only [List.length_map, List.length_append, List.length_cons, List.length_nil, Nat.zero_add] at h ⊢; first | exact h | (unfold maxLen; omega) | omega) (Exists.intro _ (And.intro (WE.refl _) ?_)))))
      rw [← List.map_append]
      (repeat (first | ((conv => whnf); (with_reducible refine And.intro ?_ ?_); (focus (first | exact Eq.refl _ | exact trivial | exact Int.natCast_nonneg _ | assumption | exact Nat.le_of_ble_eq_true (Eq.refl true) | decide))))); (conv => whnf)
      refine nd (by decide) _ _ _ ?_
      (repeat (first | ((conv => whnf); (with_reducible refine And.intro ?_ ?_); (focus (first | exact Eq.refl _ | exact trivial | exact Int.natCast_nonneg _ | assumption | exact Nat.le_of_ble_eq_true (Eq.refl true) | decide))))); (conv => whnf)
      refine AWL.weak (rn [(26, 4053), (4055, 4055)]) ?_ (ih_values_copied_l1 v (x_17 + 1) (v_1_3 ++ ([r33])) r1 xs31 _ hF (pre_x_17 ++ [x30]) (by rw [hs_x_17]; simp) (by rw [hk_x_17]; simp) hlen18)
      exact (WS.mk (wt_cons wd_ptr (wt_cons wd_ptr (wt_cons (wd_c (WE.refl _)) (wt_cons (wd_c (WE.refl _)) (wt_cons (wd_c (we_i (wrap_succ hlen18 hl32))) wt_nil))))) (wb_cons rfl (wc_c (WE.refl _) (wc_c (WE.refl _) (wc_c (WE.refl _) (wc_own rfl (WE.refl _) (wc_c (WE.refl _) (wc_own rfl (WE.refl _) wc_nil)))))) (wb_cons rfl (wc_c (WE.refl _) (wc_c (WE.refl _) (wc_c (WE.refl _) (wc_c (WE.refl _) (wc_c (WE.refl _) (wc_c (WE.refl _) wc_nil)))))) wb_nil)))
    · subst hp32
      refine nd (by decide) _ _ _ ?_
      (conv => whnf)
      refine AWP.seq ?_
      refine nd (by decide) _ _ _ ?_
      (repeat (first | ((conv => whnf); (with_reducible refine And.intro ?_ ?_); (focus (first | exact Eq.refl _ | exact trivial | exact Int.natCast_nonneg _ | assumption | exact Nat.le_of_ble_eq_true (Eq.refl true) | decide))))); (conv => whnf)
      obtain rfl := some_eq hF
      refine nd (by decide) _ _ _ ?_
      (repeat (first | ((conv => whnf); (with_reducible refine And.intro ?_ ?_); (focus (first | exact Eq.refl _ | exact trivial | exact Int.natCast_nonneg _ | assumption | exact Nat.le_of_ble_eq_true (Eq.refl true) | decide))))); (conv => whnf)
      exact Exists.intro (rn []) (WS.mk (wt_cons (wd_agg (wl_cons (WE.refl _) (wl_cons (WE.refl _) (wl_cons (WE.refl _) (wl_cons (WE.refl _) (wl_cons (WE.refl _) (wl_cons (WE.refl _) wl_nil))))))) wt_nil) wb_nil)
theorem values_copied_ok : ∀ (v : TValue), ∀ r, values_copied v = some r → values_copied.M v r := values_copied_all.1
theorem values_copied_l1_ok : ∀ (v : TValue) (x_17 : Nat) (v_1_3 : (List TValue)) (r1 : ((List TExc))) (x_17_s_ : (List TValue)), ∀ r, values_copied_l1 v x_17 v_1_3 r1 x_17_s_ = some r → values_copied_l1.M v x_17 v_1_3 r1 x_17_s_ r := values_copied_all.2
end Go.Proofs.YtafniolcakiljaaDoor

set_option linter.unusedVariables false
set_option linter.unusedSimpArgs false
set_option maxRecDepth 100000
set_option maxHeartbeats 4000000
namespace Go.Proofs.YtafniolcakiljaaDoor
open Go Go.Am
def values_List_l1 (l_2 : (List TValue)) (v_1_0_s : TValue) : Option ((List TValue) × Bool) :=
  if (((v_1_0_s.fOp == 3) && (v_1_0_s.fName.toList == (ByteArray.mk #[58]).toList)) && (((v_1_0_s.fKids.length : Nat) : Int) == 2)) = true then
  (ixI v_1_0_s.fKids 0) >>= fun x47 =>
  values_copied x47 >>= fun r48 =>
  guardP ((l_2.length + ([r48]).length) * 88 ≤ 140737488355328) >>= fun _ =>
  (ixI v_1_0_s.fKids 1) >>= fun x50 =>
  values_List_l1 (l_2 ++ ([r48])) x50
  else
  if (((v_1_0_s.fOp != 3) || (!(v_1_0_s.fName.toList == (ByteArray.mk #[91, 93]).toList))) || (((v_1_0_s.fKids.length : Nat) : Int) != 0)) = true then
  some (([] : List TValue), false)
  else
  some (l_2, true)
  partial_fixpoint
def values_List_l1.M (l_2 : (List TValue)) (v_1_0_s : TValue) (r : (List TValue) × Bool) : Prop :=
  AWL Tryd.prog 45 (Code.sub (bodyOf Tryd.f16) [1, 0, 0, 0]) (Code.cont Tryd.prog 45 (bodyOf Tryd.f16) [1, 0, 0] (endK tab Tryd.f16.results [] (WRes (.tup [.c (.sl (r.1.map TValue.cells)), .c (.v (.bool r.2))]) []))) ⟨[(1, .ptr 1 0), (2, .c (some (2, 28)) (.sl (l_2.map TValue.cells)))], [(1, [(none, .v (.int .i64 v_1_0_s.fOp)), (none, .v (.string v_1_0_s.fName)), (none, .v (.int .i64 v_1_0_s.fN)), (none, .sl (v_1_0_s.fKids.map TValue.cells)), (none, .v (.bool v_1_0_s.fSet.fAll)), (none, .sl (v_1_0_s.fSet.fList.map TExc.cells))])]⟩
theorem values_List_l1_ok (l_2 : (List TValue)) (v_1_0_s : TValue) : ∀ r, values_List_l1 l_2 v_1_0_s = some r → values_List_l1.M l_2 v_1_0_s r := by
  refine values_List_l1.partial_correctness (fun l_2 v_1_0_s r => values_List_l1.M l_2 v_1_0_s r) ?_ l_2 v_1_0_s
  intro values_List_l1' ih0_values_List_l1 l_2 v_1_0_s r hF
  have ih_values_List_l1 := fun (l_2 : (List TValue)) (v_1_0_s : TValue) => ih0_values_List_l1 l_2 v_1_0_s
  clear ih0_values_List_l1
  unfold values_List_l1.M
  refine AWL.step ?_
  refine AWP.seq ?_
  refine AWP.seq ?_
  refine AWP.cutN (fun T => ∃ r, WS r T ⟨[(1, .ptr 1 0), (2, .c (some (2, 28)) (.sl (l_2.map TValue.cells))), (17, .c none (.v (.bool (((v_1_0_s.fOp == 3) && (v_1_0_s.fName.toList == (ByteArray.mk #[58]).toList)) && (((v_1_0_s.fKids.length : Nat) : Int) == 2)))))], [(1, [(none, .v (.int .i64 v_1_0_s.fOp)), (none, .v (.string v_1_0_s.fName)), (none, .v (.int .i64 v_1_0_s.fN)), (none, .sl (v_1_0_s.fKids.map TValue.cells)), (none, .v (.bool v_1_0_s.fSet.fAll)), (none, .sl (v_1_0_s.fSet.fList.map TExc.cells))])]⟩) ?_ (fun T hw => ?_)
  · refine nd (by decide) _ _ _ ?_
    (repeat (first | ((conv => whnf); (with_reducible refine And.intro ?_ ?_); (focus (first | exact Eq.refl _ | exact trivial | exact Int.natCast_nonneg _ | assumption | exact Nat.le_of_ble_eq_true (Eq.refl true) | decide))))); (conv => whnf)
    refine branchG_intro true (fun hc44 => ?_) (fun hc44 => ?_)
    · (conv => whnf)
      (repeat (first | ((conv => whnf); (with_reducible refine And.intro ?_ ?_); (focus (first | exact Eq.refl _ | exact trivial | exact Int.natCast_nonneg _ | assumption | exact Nat.le_of_ble_eq_true (Eq.refl true) | decide))))); (conv => whnf)
      refine branchG_intro true (fun hc45 => ?_) (fun hc45 => ?_)
      · (conv => whnf)
        (repeat (first | ((conv => whnf); (with_reducible refine And.intro ?_ ?_); (focus (first | exact Eq.refl _ | exact trivial | exact Int.natCast_nonneg _ | assumption | exact Nat.le_of_ble_eq_true (Eq.refl true) | decide))))); (conv => whnf)
        intro hlen43
        (try rw [List.length_map] at hlen43)
        (try rw [List.length_map])
        (repeat (first | ((conv => whnf); (with_reducible refine And.intro ?_ ?_); (focus (first | exact Eq.refl _ | exact trivial | exact Int.natCast_nonneg _ | assumption | exact Nat.le_of_ble_eq_true (Eq.refl true) | decide))))); (conv => whnf)
        exact Exists.intro (rn [(2, 2)]) (WS.mk (wt_cons wd_ptr (wt_cons (wd_own rfl (WE.refl _)) (wt_cons (wd_c (we_b (by first | exact Eq.refl _ | simp only [hc44, hc45, Bool.and_true, Bool.true_and, Bool.and_false, Bool.false_and, Bool.or_true, Bool.true_or, Bool.or_false, Bool.false_or, Bool.not_true, Bool.not_false, cond_true, cond_false, List.length_map]))) wt_nil))) (wb_cons rfl (wc_c (WE.refl _) (wc_c (WE.refl _) (wc_c (WE.refl _) (wc_c (WE.refl _) (wc_c (WE.refl _) (wc_c (WE.refl _) wc_nil)))))) wb_nil))
      · (conv => whnf)
        (repeat (first | ((conv => whnf); (with_reducible refine And.intro ?_ ?_); (focus (first | exact Eq.refl _ | exact trivial | exact Int.natCast_nonneg _ | assumption | exact Nat.le_of_ble_eq_true (Eq.refl true) | decide))))); (conv => whnf)
        exact Exists.intro (rn [(2, 2)]) (WS.mk (wt_cons wd_ptr (wt_cons (wd_own rfl (WE.refl _)) (wt_cons (wd_c (we_b (by first | exact Eq.refl _ | simp only [hc44, hc45, Bool.and_true, Bool.true_and, Bool.and_false, Bool.false_and, Bool.or_true, Bool.true_or, Bool.or_false, Bool.false_or, Bool.not_true, Bool.not_false, cond_true, cond_false, List.length_map]))) wt_nil))) (wb_cons rfl (wc_c (WE.refl _) (wc_c (WE.refl _) (wc_c (WE.refl _) (wc_c (WE.refl _) (wc_c (WE.refl _) (wc_c (WE.refl _) wc_nil)))))) wb_nil))
    · (conv => whnf)
      (repeat (first | ((conv => whnf); (with_reducible refine And.intro ?_ ?_); (focus (first | exact Eq.refl _ | exact trivial | exact Int.natCast_nonneg _ | assumption | exact Nat.le_of_ble_eq_true (Eq.refl true) | decide))))); (conv => whnf)
      exact Exists.intro (rn [(2, 2)]) (WS.mk (wt_cons wd_ptr (wt_cons (wd_own rfl (WE.refl _)) (wt_cons (wd_c (we_b (by first | exact Eq.refl _ | simp only [hc44, Bool.and_true, Bool.true_and, Bool.and_false, Bool.false_and, Bool.or_true, Bool.true_or, Bool.or_false, Bool.false_or, Bool.not_true, Bool.not_false, cond_true, cond_false, List.length_map]))) wt_nil))) (wb_cons rfl (wc_c (WE.refl _) (wc_c (WE.refl _) (wc_c (WE.refl _) (wc_c (WE.refl _) (wc_c (WE.refl _) (wc_c (WE.refl _) wc_nil)))))) wb_nil))
  obtain ⟨r0, hw⟩ := hw
  (conv => whnf)
  refine AWP.weak r0 hw ?_
  refine nd (by decide) _ _ _ ?_
  (conv => whnf)
  refine branch_hF hF (fun hc46 hF => ?_) (fun hc46 hF => ?_)
  · refine nd (by decide) _ _ _ ?_
    (conv => whnf)
    refine AWP.block ?_
    refine AWP.seq ?_
    obtain ⟨x47, hx470, hx47, hF⟩ := ix_some hF
    obtain ⟨r48, hr48, hF⟩ := bind_some hF
    obtain ⟨hg49, hF⟩ := guard_some hF
    refine nd (by decide) _ _ _ ?_
    (repeat (first | ((conv => whnf); (with_reducible refine And.intro ?_ ?_); (focus (first | exact Eq.refl _ | exact trivial | exact Int.natCast_nonneg _ | assumption | exact Nat.le_of_ble_eq_true (Eq.refl true) | decide))) | ((conv => whnf); rw [map_getI (TValue.cells_eq x47) hx47]))); (conv => whnf)
    (repeat (first | ((conv => whnf); (with_reducible refine And.intro ?_ ?_); (focus (first | exact Eq.refl _ | exact trivial | exact Int.natCast_nonneg _ | assumption | exact Nat.le_of_ble_eq_true (Eq.refl true) | decide))))); (conv => whnf)
    refine Exists.intro [] ?_
    (repeat (first | ((conv => whnf); (with_reducible refine And.intro ?_ ?_); (focus (first | exact Eq.refl _ | exact trivial | exact Int.natCast_nonneg _ | assumption | exact Nat.le_of_ble_eq_true (Eq.refl true) | decide))))); (conv => whnf)
    refine CallsX.mono (CallsX.weak (rn []) (values_copied_ok x47 _ hr48) rfl (WS.mk (wt_cons (wd_agg (wl_cons (WE.refl _) (wl_cons (WE.refl _) (wl_cons (WE.refl _) (wl_cons (WE.refl _) (wl_cons (WE.refl _) (wl_cons (WE.refl _) wl_nil))))))) wt_nil) wb_nil)) ?_
    rintro d b ⟨rfl, rfl⟩
    (repeat (first | ((conv => whnf); (with_reducible refine And.intro ?_ ?_); (focus (first | exact Eq.refl _ | exact trivial | exact Int.natCast_nonneg _ | assumption | exact Nat.le_of_ble_eq_true (Eq.refl true) | decide))))); (conv => whnf)
    (repeat (first | ((conv => whnf); (with_reducible refine And.intro ?_ ?_); (focus (first | exact Eq.refl _ | exact trivial | exact Int.natCast_nonneg _ | assumption | exact Nat.le_of_ble_eq_true (Eq.refl true) | decide))))); (conv => whnf)
    refine Exists.intro _ (And.intro (we_rows (f := TValue.cells) (wl_eq (TValue.cells_eq r48) (wl_cons (WE.refl _) (wl_cons (WE.refl _) (wl_cons (WE.refl _) (wl_cons (WE.refl _) (wl_cons (WE.refl _) (wl_cons (WE.refl _) wl_nil))))))) (we_rows_nil (f := TValue.cells))) ?_)
    (repeat (first | ((conv => whnf); (with_reducible refine And.intro ?_ ?_); (focus (first | exact Eq.refl _ | exact trivial | exact Int.natCast_nonneg _ | assumption | exact Nat.le_of_ble_eq_true (Eq.refl true) | decide))))); (conv => whnf)
    refine And.intro (by first | exact rows_map _ (fun x => TValue.cells_len x) | exact rows_nil) (And.intro (by first | exact rows_map _ (fun x => TValue.cells_len x) | exact rows_nil) (And.intro (by have h := hg49; simp only [List.length_map, List.length_append, List.length_cons, List.length_nil, Nat.zero_add] at h ⊢; first | exact h | (unfold maxLen; omega) | omega) (And.intro (by have h := hg49; simp only [List.length_map, List.length_append, List.length_cons, List.length_nil, Nat.zero_add] at h ⊢; first | exact h | (unfold maxLen; omega) | omega) (Exists.intro _ (And.intro (WE.refl _) ?_)))))
    rw [← List.map_append]
    (repeat (first | ((conv => whnf); (with_reducible refine And.intro ?_ ?_); (focus (first | exact Eq.refl _ | exact trivial | exact Int.natCast_nonneg _ | assumption | exact Nat.le_of_ble_eq_true (Eq.refl true) | decide))))); (conv => whnf)
    obtain ⟨x50, hx500, hx50, hF⟩ := ix_some hF
    refine nd (by decide) _ _ _ ?_
    (repeat (first | ((conv => whnf); (with_reducible refine And.intro ?_ ?_); (focus (first | exact Eq.refl _ | exact trivial | exact Int.natCast_nonneg _ | assumption | exact Nat.le_of_ble_eq_true (Eq.refl true) | decide))) | ((conv => whnf); rw [map_getI (TValue.cells_eq x50) hx50]))); (conv => whnf)
    (repeat (first | ((conv => whnf); (with_reducible refine And.intro ?_ ?_); (focus (first | exact Eq.refl _ | exact trivial | exact Int.natCast_nonneg _ | assumption | exact Nat.le_of_ble_eq_true (Eq.refl true) | decide))))); (conv => whnf)
    refine AWL.weak (rn [(25, 2)]) ?_ (ih_values_List_l1 (l_2 ++ ([r48])) x50 _ hF)
    exact (WS.mk (wt_cons wd_ptr (wt_cons (wd_own rfl (WE.refl _)) wt_nil)) (wb_cons rfl (wc_c (WE.refl _) (wc_c (WE.refl _) (wc_c (WE.refl _) (wc_c (WE.refl _) (wc_c (WE.refl _) (wc_c (WE.refl _) wc_nil)))))) wb_nil))
  · refine nd (by decide) _ _ _ ?_
    (conv => whnf)
    refine AWP.seq ?_
    refine AWP.seq ?_
    refine AWP.cutN (fun T => ∃ r, WS r T ⟨[(2, .c (some (2, 28)) (.sl (l_2.map TValue.cells))), (43, .c none (.v (.bool (((v_1_0_s.fOp != 3) || (!(v_1_0_s.fName.toList == (ByteArray.mk #[91, 93]).toList))) || (((v_1_0_s.fKids.length : Nat) : Int) != 0)))))], []⟩) ?_ (fun T hw => ?_)
    · refine nd (by decide) _ _ _ ?_
      (repeat (first | ((conv => whnf); (with_reducible refine And.intro ?_ ?_); (focus (first | exact Eq.refl _ | exact trivial | exact Int.natCast_nonneg _ | assumption | exact Nat.le_of_ble_eq_true (Eq.refl true) | decide))))); (conv => whnf)
      refine branchG_intro false (fun hc52 => ?_) (fun hc52 => ?_)
      · (conv => whnf)
        (repeat (first | ((conv => whnf); (with_reducible refine And.intro ?_ ?_); (focus (first | exact Eq.refl _ | exact trivial | exact Int.natCast_nonneg _ | assumption | exact Nat.le_of_ble_eq_true (Eq.refl true) | decide))))); (conv => whnf)
        exact Exists.intro (rn [(2, 2)]) (WS.mk (wt_cons (wd_own rfl (WE.refl _)) (wt_cons (wd_c (we_b (by first | exact Eq.refl _ | simp only [hc52, Bool.and_true, Bool.true_and, Bool.and_false, Bool.false_and, Bool.or_true, Bool.true_or, Bool.or_false, Bool.false_or, Bool.not_true, Bool.not_false, cond_true, cond_false, List.length_map]))) wt_nil)) wb_nil)
      · (conv => whnf)
        (repeat (first | ((conv => whnf); (with_reducible refine And.intro ?_ ?_); (focus (first | exact Eq.refl _ | exact trivial | exact Int.natCast_nonneg _ | assumption | exact Nat.le_of_ble_eq_true (Eq.refl true) | decide))))); (conv => whnf)
        refine branchG_intro false (fun hc53 => ?_) (fun hc53 => ?_)
        · (conv => whnf)
          (repeat (first | ((conv => whnf); (with_reducible refine And.intro ?_ ?_); (focus (first | exact Eq.refl _ | exact trivial | exact Int.natCast_nonneg _ | assumption | exact Nat.le_of_ble_eq_true (Eq.refl true) | decide))))); (conv => whnf)
          exact Exists.intro (rn [(2, 2)]) (WS.mk (wt_cons (wd_own rfl (WE.refl _)) (wt_cons (wd_c (we_b (by first | exact Eq.refl _ | simp only [hc52, hc53, Bool.and_true, Bool.true_and, Bool.and_false, Bool.false_and, Bool.or_true, Bool.true_or, Bool.or_false, Bool.false_or, Bool.not_true, Bool.not_false, cond_true, cond_false, List.length_map]))) wt_nil)) wb_nil)
        · (conv => whnf)
          (repeat (first | ((conv => whnf); (with_reducible refine And.intro ?_ ?_); (focus (first | exact Eq.refl _ | exact trivial | exact Int.natCast_nonneg _ | assumption | exact Nat.le_of_ble_eq_true (Eq.refl true) | decide))))); (conv => whnf)
          intro hlen51
          (try rw [List.length_map] at hlen51)
          (try rw [List.length_map])
          (repeat (first | ((conv => whnf); (with_reducible refine And.intro ?_ ?_); (focus (first | exact Eq.refl _ | exact trivial | exact Int.natCast_nonneg _ | assumption | exact Nat.le_of_ble_eq_true (Eq.refl true) | decide))))); (conv => whnf)
          exact Exists.intro (rn [(2, 2)]) (WS.mk (wt_cons (wd_own rfl (WE.refl _)) (wt_cons (wd_c (we_b (by first | exact Eq.refl _ | simp only [hc52, hc53, Bool.and_true, Bool.true_and, Bool.and_false, Bool.false_and, Bool.or_true, Bool.true_or, Bool.or_false, Bool.false_or, Bool.not_true, Bool.not_false, cond_true, cond_false, List.length_map]))) wt_nil)) wb_nil)
    obtain ⟨r0, hw⟩ := hw
    (conv => whnf)
    refine AWP.weak r0 hw ?_
    refine nd (by decide) _ _ _ ?_
    (conv => whnf)
    refine branch_hF hF (fun hc54 hF => ?_) (fun hc54 hF => ?_)
    · refine AWP.seq ?_
      refine nd (by decide) _ _ _ ?_
      (repeat (first | ((conv => whnf); (with_reducible refine And.intro ?_ ?_); (focus (first | exact Eq.refl _ | exact trivial | exact Int.natCast_nonneg _ | assumption | exact Nat.le_of_ble_eq_true (Eq.refl true) | decide))))); (conv => whnf)
      obtain rfl := some_eq hF
      refine nd (by decide) _ _ _ ?_
      (repeat (first | ((conv => whnf); (with_reducible refine And.intro ?_ ?_); (focus (first | exact Eq.refl _ | exact trivial | exact Int.natCast_nonneg _ | assumption | exact Nat.le_of_ble_eq_true (Eq.refl true) | decide))))); (conv => whnf)
      exact Exists.intro (rn []) (WS.mk (wt_cons (wd_tup (wx_c WE.nil (wx_c (WE.refl _) wx_nil))) wt_nil) wb_nil)
    · refine nd (by decide) _ _ _ ?_
      (conv => whnf)
      refine AWP.seq ?_
      refine nd (by decide) _ _ _ ?_
      (repeat (first | ((conv => whnf); (with_reducible refine And.intro ?_ ?_); (focus (first | exact Eq.refl _ | exact trivial | exact Int.natCast_nonneg _ | assumption | exact Nat.le_of_ble_eq_true (Eq.refl true) | decide))))); (conv => whnf)
      obtain rfl := some_eq hF
      refine nd (by decide) _ _ _ ?_
      (repeat (first | ((conv => whnf); (with_reducible refine And.intro ?_ ?_); (focus (first | exact Eq.refl _ | exact trivial | exact Int.natCast_nonneg _ | assumption | exact Nat.le_of_ble_eq_true (Eq.refl true) | decide))))); (conv => whnf)
      exact Exists.intro (rn []) (WS.mk (wt_cons (wd_tup (wx_c (WE.refl _) (wx_c (WE.refl _) wx_nil))) wt_nil) wb_nil)
end Go.Proofs.YtafniolcakiljaaDoor

set_option linter.unusedVariables false
set_option linter.unusedSimpArgs false
set_option maxRecDepth 100000
set_option maxHeartbeats 4000000
namespace Go.Proofs.YtafniolcakiljaaDoor
open Go Go.Am
def values_List (v : TValue) : Option ((List TValue) × Bool) :=
  values_List_l1 ([]) v
def values_List.M (v : TValue) (r : (List TValue) × Bool) : Prop :=
  CallsX Tryd.prog 16 [.agg [.v (.int .i64 v.fOp), .v (.string v.fName), .v (.int .i64 v.fN), .sl (v.fKids.map TValue.cells), .v (.bool v.fSet.fAll), .sl (v.fSet.fList.map TExc.cells)]] [] (fun d b => d = .tup [.c (.sl (r.1.map TValue.cells)), .c (.v (.bool r.2))] ∧ b = [])
theorem values_List_ok (v : TValue) (r : (List TValue) × Bool) (hF : values_List v = some r) : values_List.M v r := by
  unfold values_List at hF
  unfold values_List.M
  refine enter tabOk Tryd.func16 rfl (by decide) (Nat.le_of_ble_eq_true rfl) rfl rfl rfl ?_
  refine AWP.seq ?_
  refine nd (by decide) _ _ _ ?_
  (repeat (first | ((conv => whnf); (with_reducible refine And.intro ?_ ?_); (focus (first | exact Eq.refl _ | exact trivial | exact Int.natCast_nonneg _ | assumption | exact Nat.le_of_ble_eq_true (Eq.refl true) | decide))))); (conv => whnf)
  refine AWP.seq ?_
  refine AWP.block ?_
  refine AWP.loop ?_
  refine AWL.weak (rn []) ?_ (values_List_l1_ok ([]) v _ hF)
  exact (WS.mk (wt_cons wd_ptr (wt_cons wd_nil wt_nil)) (wb_cons rfl (wc_c (WE.refl _) (wc_c (WE.refl _) (wc_c (WE.refl _) (wc_c (WE.refl _) (wc_c (WE.refl _) (wc_c (WE.refl _) wc_nil)))))) wb_nil))
end Go.Proofs.YtafniolcakiljaaDoor

set_option linter.unusedVariables false
set_option linter.unusedSimpArgs false
set_option maxRecDepth 100000
set_option maxHeartbeats 4000000
namespace Go.Proofs.YtafniolcakiljaaDoor
open Go Go.Am
def values_Text_l1 (b_5 : (List Int)) (r1 : ((List TValue) × Bool)) (x_20 : Nat) (x_20_s_ : (List TValue)) : Option (ByteArray × Bool) :=
  (match x_20_s_ with
  | x39 :: xs40 =>
  if (((x39.fOp != 2) || (decide (x39.fN < 0))) || (decide (x39.fN > 255))) = true then
  some ((ByteArray.mk #[]), false)
  else
  guardP ((b_5.length + ([(IntKind.u8.wrap x39.fN)]).length) * 1 ≤ 140737488355328) >>= fun _ =>
  values_Text_l1 (b_5 ++ ([(IntKind.u8.wrap x39.fN)])) r1 (x_20 + 1) xs40
  | [] =>
  some (bytesOf b_5, true))
  partial_fixpoint
def values_Text_l1.M (b_5 : (List Int)) (r1 : ((List TValue) × Bool)) (x_20 : Nat) (x_20_s_ : (List TValue)) (r : ByteArray × Bool) : Prop :=
  ∀ pre_x_20 : List TValue, r1.1 = pre_x_20 ++ x_20_s_ → x_20 = pre_x_20.length → r1.1.length ≤ maxLen → AWL Tryd.prog 46 (Code.sub (bodyOf Tryd.f19) [1, 1, 1, 1, 0, 1, 0, 0]) (Code.cont Tryd.prog 46 (bodyOf Tryd.f19) [1, 1, 1, 1, 0, 1, 0] (endK tab Tryd.f19.results [] (WRes (.tup [.c (.v (.string r.1)), .c (.v (.bool r.2))]) []))) ⟨[(5, .c (some (5, 5)) (.sl (b_5.map c_I_u8))), (18, .c none (.sl (r1.1.map TValue.cells))), (19, .c none (.v (.int .i64 ((r1.1.length : Nat) : Int)))), (20, .c none (.v (.int .i64 ((x_20 : Nat) : Int))))], []⟩
theorem values_Text_l1_ok (b_5 : (List Int)) (r1 : ((List TValue) × Bool)) (x_20 : Nat) (x_20_s_ : (List TValue)) : ∀ r, values_Text_l1 b_5 r1 x_20 x_20_s_ = some r → values_Text_l1.M b_5 r1 x_20 x_20_s_ r := by
  refine values_Text_l1.partial_correctness r1 (fun b_5 x_20 x_20_s_ r => values_Text_l1.M b_5 r1 x_20 x_20_s_ r) ?_ b_5 x_20 x_20_s_
  intro values_Text_l1' ih0_values_Text_l1 b_5 x_20 x_20_s_ r hF
  have ih_values_Text_l1 := fun (b_5 : (List Int)) (_r1 : ((List TValue) × Bool)) (x_20 : Nat) (x_20_s_ : (List TValue)) => ih0_values_Text_l1 b_5 x_20 x_20_s_
  clear ih0_values_Text_l1
  unfold values_Text_l1.M
  intro pre_x_20 hs_x_20 hk_x_20 hlen25
  refine AWL.step ?_
  refine AWP.seq ?_
  refine nd (by decide) _ _ _ ?_
  (repeat (first | ((conv => whnf); (with_reducible refine And.intro ?_ ?_); (focus (first | exact Eq.refl _ | exact trivial | exact Int.natCast_nonneg _ | assumption | exact Nat.le_of_ble_eq_true (Eq.refl true) | decide))))); (conv => whnf)
  refine AWP.seq ?_
  refine nd (by decide) _ _ _ ?_
  (conv => whnf)
  refine branch_list hs_x_20 hk_x_20 (fun x39 xs40 hp41 hx41 hl41 => ?_) (fun hp41 => ?_)
  · subst hp41
    refine nd (by decide) _ _ _ ?_
    (conv => whnf)
    refine AWP.seq ?_
    refine AWP.block ?_
    refine AWP.seq ?_
    refine nd (by decide) _ _ _ ?_
    (repeat (first | ((conv => whnf); (with_reducible refine And.intro ?_ ?_); (focus (first | exact Eq.refl _ | exact trivial | exact Int.natCast_nonneg _ | assumption | exact Nat.le_of_ble_eq_true (Eq.refl true) | decide))) | ((conv => whnf); rw [map_get (TValue.cells_eq x39) hx41]))); (conv => whnf)
    (repeat (first | ((conv => whnf); (with_reducible refine And.intro ?_ ?_); (focus (first | exact Eq.refl _ | exact trivial | exact Int.natCast_nonneg _ | assumption | exact Nat.le_of_ble_eq_true (Eq.refl true) | decide))))); (conv => whnf)
    refine AWP.seq ?_
    refine AWP.seq ?_
    refine AWP.cutN (fun T => ∃ r, WS r T ⟨[(5, .c (some (5, 5)) (.sl (b_5.map c_I_u8))), (7, .ptr 7 0), (18, .c none (.sl (r1.1.map TValue.cells))), (19, .c none (.v (.int .i64 ((r1.1.length : Nat) : Int)))), (20, .c none (.v (.int .i64 ((x_20 : Nat) : Int)))), (36, .c none (.v (.bool (((x39.fOp != 2) || (decide (x39.fN < 0))) || (decide (x39.fN > 255))))))], [(7, [(none, .v (.int .i64 x39.fOp)), (none, .v (.string x39.fName)), (none, .v (.int .i64 x39.fN)), (none, .sl (x39.fKids.map TValue.cells)), (none, .v (.bool x39.fSet.fAll)), (none, .sl (x39.fSet.fList.map TExc.cells))])]⟩) ?_ (fun T hw => ?_)
    · refine nd (by decide) _ _ _ ?_
      (repeat (first | ((conv => whnf); (with_reducible refine And.intro ?_ ?_); (focus (first | exact Eq.refl _ | exact trivial | exact Int.natCast_nonneg _ | assumption | exact Nat.le_of_ble_eq_true (Eq.refl true) | decide))))); (conv => whnf)
      refine branchG_intro false (fun hc43 => ?_) (fun hc43 => ?_)
      · (conv => whnf)
        (repeat (first | ((conv => whnf); (with_reducible refine And.intro ?_ ?_); (focus (first | exact Eq.refl _ | exact trivial | exact Int.natCast_nonneg _ | assumption | exact Nat.le_of_ble_eq_true (Eq.refl true) | decide))))); (conv => whnf)
        exact Exists.intro (rn [(5, 5)]) (WS.mk (wt_cons (wd_own rfl (WE.refl _)) (wt_cons wd_ptr (wt_cons (wd_c (WE.refl _)) (wt_cons (wd_c (WE.refl _)) (wt_cons (wd_c (WE.refl _)) (wt_cons (wd_c (we_b (by first | exact Eq.refl _ | simp only [hc43, Bool.and_true, Bool.true_and, Bool.and_false, Bool.false_and, Bool.or_true, Bool.true_or, Bool.or_false, Bool.false_or, Bool.not_true, Bool.not_false, cond_true, cond_false, List.length_map]))) wt_nil)))))) (wb_cons rfl (wc_c (WE.refl _) (wc_c (WE.refl _) (wc_c (WE.refl _) (wc_c (WE.refl _) (wc_c (WE.refl _) (wc_c (WE.refl _) wc_nil)))))) wb_nil))
      · (conv => whnf)
        (repeat (first | ((conv => whnf); (with_reducible refine And.intro ?_ ?_); (focus (first | exact Eq.refl _ | exact trivial | exact Int.natCast_nonneg _ | assumption | exact Nat.le_of_ble_eq_true (Eq.refl true) | decide))))); (conv => whnf)
        refine branchG_intro false (fun hc44 => ?_) (fun hc44 => ?_)
        · (conv => whnf)
          (repeat (first | ((conv => whnf); (with_reducible refine And.intro ?_ ?_); (focus (first | exact Eq.refl _ | exact trivial | exact Int.natCast_nonneg _ | assumption | exact Nat.le_of_ble_eq_true (Eq.refl true) | decide))))); (conv => whnf)
          exact Exists.intro (rn [(5, 5)]) (WS.mk (wt_cons (wd_own rfl (WE.refl _)) (wt_cons wd_ptr (wt_cons (wd_c (WE.refl _)) (wt_cons (wd_c (WE.refl _)) (wt_cons (wd_c (WE.refl _)) (wt_cons (wd_c (we_b (by first | exact Eq.refl _ | simp only [hc43, hc44, Bool.and_true, Bool.true_and, Bool.and_false, Bool.false_and, Bool.or_true, Bool.true_or, Bool.or_false, Bool.false_or, Bool.not_true, Bool.not_false, cond_true, cond_false, List.length_map]))) wt_nil)))))) (wb_cons rfl (wc_c (WE.refl _) (wc_c (WE.refl _) (wc_c (WE.refl _) (wc_c (WE.refl _) (wc_c (WE.refl _) (wc_c (WE.refl _) wc_nil)))))) wb_nil))
        · (conv => whnf)
          (repeat (first | ((conv => whnf); (with_reducible refine And.intro ?_ ?_); (focus (first | exact Eq.refl _ | exact trivial | exact Int.natCast_nonneg _ | assumption | exact Nat.le_of_ble_eq_true (Eq.refl true) | decide))))); (conv => whnf)
          exact Exists.intro (rn [(5, 5)]) (WS.mk (wt_cons (wd_own rfl (WE.refl _)) (wt_cons wd_ptr (wt_cons (wd_c (WE.refl _)) (wt_cons (wd_c (WE.refl _)) (wt_cons (wd_c (WE.refl _)) (wt_cons (wd_c (we_b (by first | exact Eq.refl _ | simp only [hc43, hc44, Bool.and_true, Bool.true_and, Bool.and_false, Bool.false_and, Bool.or_true, Bool.true_or, Bool.or_false, Bool.false_or, Bool.not_true, Bool.not_false, cond_true, cond_false, List.length_map]))) wt_nil)))))) (wb_cons rfl (wc_c (WE.refl _) (wc_c (WE.refl _) (wc_c (WE.refl _) (wc_c (WE.refl _) (wc_c (WE.refl _) (wc_c (WE.refl _) wc_nil)))))) wb_nil))
    obtain ⟨r0, hw⟩ := hw
    (conv => whnf)
    refine AWP.weak r0 hw ?_
    refine nd (by decide) _ _ _ ?_
    (conv => whnf)
    refine branch_hF hF (fun hc45 hF => ?_) (fun hc45 hF => ?_)
    · refine AWP.seq ?_
      refine nd (by decide) _ _ _ ?_
      (repeat (first | ((conv => whnf); (with_reducible refine And.intro ?_ ?_); (focus (first | exact Eq.refl _ | exact trivial | exact Int.natCast_nonneg _ | assumption | exact Nat.le_of_ble_eq_true (Eq.refl true) | decide))))); (conv => whnf)
      obtain rfl := some_eq hF
      refine nd (by decide) _ _ _ ?_
      (repeat (first | ((conv => whnf); (with_reducible refine And.intro ?_ ?_); (focus (first | exact Eq.refl _ | exact trivial | exact Int.natCast_nonneg _ | assumption | exact Nat.le_of_ble_eq_true (Eq.refl true) | decide))))); (conv => whnf)
      exact Exists.intro (rn []) (WS.mk (wt_cons (wd_tup (wx_c (WE.refl _) (wx_c (WE.refl _) wx_nil))) wt_nil) wb_nil)
    · refine nd (by decide) _ _ _ ?_
      (conv => whnf)
      obtain ⟨hg46, hF⟩ := guard_some hF
      refine nd (by decide) _ _ _ ?_
      (repeat (first | ((conv => whnf); (with_reducible refine And.intro ?_ ?_); (focus (first | exact Eq.refl _ | exact trivial | exact Int.natCast_nonneg _ | assumption | exact Nat.le_of_ble_eq_true (Eq.refl true) | decide))))); (conv => whnf)
      refine Exists.intro _ (And.intro (we_rows (f := c_I_u8) (wl_cons (WE.refl _) wl_nil) (we_rows_nil (f := c_I_u8))) ?_)
      (repeat (first | ((conv => whnf); (with_reducible refine And.intro ?_ ?_); (focus (first | exact Eq.refl _ | exact trivial | exact Int.natCast_nonneg _ | assumption | exact Nat.le_of_ble_eq_true (Eq.refl true) | decide))))); (conv => whnf)
      refine And.intro (by first | exact rows_map _ (fun x => c_I_u8_len x) | exact rows_nil) (And.intro (by first | exact rows_map _ (fun x => c_I_u8_len x) | exact rows_nil) (And.intro (by have h := hg46; simp only [List.length_map, List.length_append, List.length_cons, List.length_nil, Nat.zero_add] at h ⊢; first | exact h | (unfold maxLen; omega) | omega) (And.intro (by have h := hg46; simp only [List.length_map, List.length_append, List.length_cons, List.length_nil, Nat.zero_add] at h ⊢; first | exact h | (unfold maxLen; omega) | omega) (Exists.intro _ (And.intro (WE.refl _) ?_)))))
      rw [← List.map_append]
      (repeat (first | ((conv => whnf); (with_reducible refine And.intro ?_ ?_); (focus (first | exact Eq.refl _ | exact trivial | exact Int.natCast_nonneg _ | assumption | exact Nat.le_of_ble_eq_true (Eq.refl true) | decide))))); (conv => whnf)
      refine nd (by decide) _ _ _ ?_
      (repeat (first | ((conv => whnf); (with_reducible refine And.intro ?_ ?_); (focus (first | exact Eq.refl _ | exact trivial | exact Int.natCast_nonneg _ | assumption | exact Nat.le_of_ble_eq_true (Eq.refl true) | decide))))); (conv => whnf)
      refine AWL.weak (rn [(42, 5)]) ?_ (ih_values_Text_l1 (b_5 ++ ([(IntKind.u8.wrap x39.fN)])) r1 (x_20 + 1) xs40 _ hF (pre_x_20 ++ [x39]) (by rw [hs_x_20]; simp) (by rw [hk_x_20]; simp) hlen25)
      exact (WS.mk (wt_cons (wd_own rfl (WE.refl _)) (wt_cons (wd_c (WE.refl _)) (wt_cons (wd_c (WE.refl _)) (wt_cons (wd_c (we_i (wrap_succ hlen25 hl41))) wt_nil)))) wb_nil)
  · subst hp41
    refine nd (by decide) _ _ _ ?_
    (conv => whnf)
    refine AWP.seq ?_
    refine nd (by decide) _ _ _ ?_
    (repeat (first | ((conv => whnf); (with_reducible refine And.intro ?_ ?_); (focus (first | exact Eq.refl _ | exact trivial | exact Int.natCast_nonneg _ | assumption | exact Nat.le_of_ble_eq_true (Eq.refl true) | decide))))); (conv => whnf)
    refine Exists.intro b_5 (And.intro rfl ?_)
    (repeat (first | ((conv => whnf); (with_reducible refine And.intro ?_ ?_); (focus (first | exact Eq.refl _ | exact trivial | exact Int.natCast_nonneg _ | assumption | exact Nat.le_of_ble_eq_true (Eq.refl true) | decide))))); (conv => whnf)
    obtain rfl := some_eq hF
    refine nd (by decide) _ _ _ ?_
    (repeat (first | ((conv => whnf); (with_reducible refine And.intro ?_ ?_); (focus (first | exact Eq.refl _ | exact trivial | exact Int.natCast_nonneg _ | assumption | exact Nat.le_of_ble_eq_true (Eq.refl true) | decide))))); (conv => whnf)
    exact Exists.intro (rn []) (WS.mk (wt_cons (wd_tup (wx_c (WE.refl _) (wx_c (WE.refl _) wx_nil))) wt_nil) wb_nil)
end Go.Proofs.YtafniolcakiljaaDoor

set_option linter.unusedVariables false
set_option linter.unusedSimpArgs false
set_option maxRecDepth 100000
set_option maxHeartbeats 4000000
namespace Go.Proofs.YtafniolcakiljaaDoor
open Go Go.Am
def values_Text (v : TValue) : Option (ByteArray × Bool) :=
  values_List v >>= fun r1 =>
  if (!r1.2) = true then
  some ((ByteArray.mk #[]), false)
  else
  guardP (0 ≤ ((r1.1.length : Nat) : Int) ∧ ((r1.1.length : Nat) : Int) ≤ (maxLen : Nat) ∧ (1 : Int) * ((r1.1.length : Nat) : Int) ≤ 281474976710656) >>= fun _ =>
  values_Text_l1 ([] : List Int) r1 0 r1.1
def values_Text.M (v : TValue) (r : ByteArray × Bool) : Prop :=
  CallsX Tryd.prog 19 [.agg [.v (.int .i64 v.fOp), .v (.string v.fName), .v (.int .i64 v.fN), .sl (v.fKids.map TValue.cells), .v (.bool v.fSet.fAll), .sl (v.fSet.fList.map TExc.cells)]] [] (fun d b => d = .tup [.c (.v (.string r.1)), .c (.v (.bool r.2))] ∧ b = [])
theorem values_Text_ok (v : TValue) (r : ByteArray × Bool) (hF : values_Text v = some r) : values_Text.M v r := by
  unfold values_Text at hF
  unfold values_Text.M
  refine enter tabOk Tryd.func19 rfl (by decide) (Nat.le_of_ble_eq_true rfl) rfl rfl rfl ?_
  refine AWP.seq ?_
  refine nd (by decide) _ _ _ ?_
  (repeat (first | ((conv => whnf); (with_reducible refine And.intro ?_ ?_); (focus (first | exact Eq.refl _ | exact trivial | exact Int.natCast_nonneg _ | assumption | exact Nat.le_of_ble_eq_true (Eq.refl true) | decide))))); (conv => whnf)
  refine AWP.seq ?_
  obtain ⟨r1, hr1, hF⟩ := bind_some hF
  refine nd (by decide) _ _ _ ?_
  (repeat (first | ((conv => whnf); (with_reducible refine And.intro ?_ ?_); (focus (first | exact Eq.refl _ | exact trivial | exact Int.natCast_nonneg _ | assumption | exact Nat.le_of_ble_eq_true (Eq.refl true) | decide))))); (conv => whnf)
  refine Exists.intro [] ?_
  (repeat (first | ((conv => whnf); (with_reducible refine And.intro ?_ ?_); (focus (first | exact Eq.refl _ | exact trivial | exact Int.natCast_nonneg _ | assumption | exact Nat.le_of_ble_eq_true (Eq.refl true) | decide))))); (conv => whnf)
  refine CallsX.mono (CallsX.weak (rn []) (values_List_ok v _ hr1) rfl (WS.mk (wt_cons (wd_agg (wl_cons (WE.refl _) (wl_cons (WE.refl _) (wl_cons (WE.refl _) (wl_cons (WE.refl _) (wl_cons (WE.refl _) (wl_cons (WE.refl _) wl_nil))))))) wt_nil) wb_nil)) ?_
  rintro d b ⟨rfl, rfl⟩
  (repeat (first | ((conv => whnf); (with_reducible refine And.intro ?_ ?_); (focus (first | exact Eq.refl _ | exact trivial | exact Int.natCast_nonneg _ | assumption | exact Nat.le_of_ble_eq_true (Eq.refl true) | decide))))); (conv => whnf)
  (repeat (first | ((conv => whnf); (with_reducible refine And.intro ?_ ?_); (focus (first | exact Eq.refl _ | exact trivial | exact Int.natCast_nonneg _ | assumption | exact Nat.le_of_ble_eq_true (Eq.refl true) | decide))))); (conv => whnf)
  refine AWP.seq ?_
  refine AWP.seq ?_
  refine nd (by decide) _ _ _ ?_
  (repeat (first | ((conv => whnf); (with_reducible refine And.intro ?_ ?_); (focus (first | exact Eq.refl _ | exact trivial | exact Int.natCast_nonneg _ | assumption | exact Nat.le_of_ble_eq_true (Eq.refl true) | decide))))); (conv => whnf)
  refine nd (by decide) _ _ _ ?_
  (conv => whnf)
  refine branch_hF hF (fun hc3 hF => ?_) (fun hc3 hF => ?_)
  · refine AWP.seq ?_
    refine nd (by decide) _ _ _ ?_
    (repeat (first | ((conv => whnf); (with_reducible refine And.intro ?_ ?_); (focus (first | exact Eq.refl _ | exact trivial | exact Int.natCast_nonneg _ | assumption | exact Nat.le_of_ble_eq_true (Eq.refl true) | decide))))); (conv => whnf)
    obtain rfl := some_eq hF
    refine nd (by decide) _ _ _ ?_
    (repeat (first | ((conv => whnf); (with_reducible refine And.intro ?_ ?_); (focus (first | exact Eq.refl _ | exact trivial | exact Int.natCast_nonneg _ | assumption | exact Nat.le_of_ble_eq_true (Eq.refl true) | decide))))); (conv => whnf)
    exact Exists.intro (rn []) (WS.mk (wt_cons (wd_tup (wx_c (WE.refl _) (wx_c (WE.refl _) wx_nil))) wt_nil) wb_nil)
  · refine nd (by decide) _ _ _ ?_
    (conv => whnf)
    refine AWP.seq ?_
    obtain ⟨hg5, hF⟩ := guard_some hF
    refine nd (by decide) _ _ _ ?_
    (repeat (first | ((conv => whnf); (with_reducible refine And.intro ?_ ?_); (focus (first | exact Eq.refl _ | exact trivial | exact Int.natCast_nonneg _ | assumption | exact Nat.le_of_ble_eq_true (Eq.refl true) | decide))))); (conv => whnf)
    intro hlen4
    (try rw [List.length_map] at hlen4)
    (try rw [List.length_map])
    (repeat (first | ((conv => whnf); (with_reducible refine And.intro ?_ ?_); (focus (first | exact Eq.refl _ | exact trivial | exact Int.natCast_nonneg _ | assumption | exact Nat.le_of_ble_eq_true (Eq.refl true) | decide))) | ((with_reducible refine And.intro ?_ ?_); (focus (first | exact hg5.1 | exact hg5.2.1 | exact hg5.2.2)))))
    (repeat (first | ((conv => whnf); (with_reducible refine And.intro ?_ ?_); (focus (first | exact Eq.refl _ | exact trivial | exact Int.natCast_nonneg _ | assumption | exact Nat.le_of_ble_eq_true (Eq.refl true) | decide))))); (conv => whnf)
    refine AWP.seq ?_
    refine AWP.seq ?_
    refine nd (by decide) _ _ _ ?_
    (repeat (first | ((conv => whnf); (with_reducible refine And.intro ?_ ?_); (focus (first | exact Eq.refl _ | exact trivial | exact Int.natCast_nonneg _ | assumption | exact Nat.le_of_ble_eq_true (Eq.refl true) | decide))))); (conv => whnf)
    intro hlen25
    (try rw [List.length_map] at hlen25)
    (try rw [List.length_map])
    (repeat (first | ((conv => whnf); (with_reducible refine And.intro ?_ ?_); (focus (first | exact Eq.refl _ | exact trivial | exact Int.natCast_nonneg _ | assumption | exact Nat.le_of_ble_eq_true (Eq.refl true) | decide))))); (conv => whnf)
    refine AWP.block ?_
    refine AWP.loop ?_
    refine AWL.weak (rn [(17, 5)]) ?_ (values_Text_l1_ok ([] : List Int) r1 0 r1.1 _ hF ([]) rfl rfl hlen25)
    exact (WS.mk (wt_cons (wd_own rfl (WE.refl _)) (wt_cons (wd_c (WE.refl _)) (wt_cons (wd_c (WE.refl _)) (wt_cons (wd_c (WE.refl _)) wt_nil)))) wb_nil)
end Go.Proofs.YtafniolcakiljaaDoor

set_option linter.unusedVariables false
set_option linter.unusedSimpArgs false
set_option maxRecDepth 100000
set_option maxHeartbeats 4000000
namespace Go.Proofs.YtafniolcakiljaaDoor
open Go Go.Am
def lazyclaw25_example : Option (Bool) :=
  values_Text (TValue.mk 3 (ByteArray.mk #[58]) 0 ([(TValue.mk 2 (ByteArray.mk #[]) 97 ([] : List TValue) (TExcSet.mk false ([] : List TExc))), (TValue.mk 3 (ByteArray.mk #[91, 93]) 0 ([] : List TValue) (TExcSet.mk false ([] : List TExc)))]) (TExcSet.mk false ([] : List TExc))) >>= fun r1 =>
  values_Print (TValue.mk 3 (ByteArray.mk #[58]) 0 ([(TValue.mk 2 (ByteArray.mk #[]) 97 ([] : List TValue) (TExcSet.mk false ([] : List TExc))), (TValue.mk 3 (ByteArray.mk #[91, 93]) 0 ([] : List TValue) (TExcSet.mk false ([] : List TExc)))]) (TExcSet.mk false ([] : List TExc))) >>= fun r2 =>
  (if (((r2.toList == (ByteArray.mk #[40, 32, 58, 32, 35, 57, 55, 32, 91, 93, 32, 41]).toList) && (r1.1.toList == (ByteArray.mk #[97]).toList)) && r1.2) = true then values_Refines (TValue.mk 3 (ByteArray.mk #[58]) 0 ([(TValue.mk 2 (ByteArray.mk #[]) 97 ([] : List TValue) (TExcSet.mk false ([] : List TExc))), (TValue.mk 3 (ByteArray.mk #[91, 93]) 0 ([] : List TValue) (TExcSet.mk false ([] : List TExc)))]) (TExcSet.mk false ([] : List TExc))) (TValue.mk 5 (ByteArray.mk #[]) 0 ([] : List TValue) (TExcSet.mk true ([] : List TExc))) >>= fun r3 =>
  some r3 else some false) >>= fun c4 =>
  (if c4 = true then values_Refines (TValue.mk 5 (ByteArray.mk #[]) 0 ([] : List TValue) (TExcSet.mk true ([] : List TExc))) (TValue.mk 3 (ByteArray.mk #[58]) 0 ([(TValue.mk 2 (ByteArray.mk #[]) 97 ([] : List TValue) (TExcSet.mk false ([] : List TExc))), (TValue.mk 3 (ByteArray.mk #[91, 93]) 0 ([] : List TValue) (TExcSet.mk false ([] : List TExc)))]) (TExcSet.mk false ([] : List TExc))) >>= fun r5 =>
  some (!r5) else some false) >>= fun c6 =>
  some c6
def lazyclaw25_example.M (r : Bool) : Prop :=
  CallsX Tryd.prog 12 [] [] (fun d b => d = .c none (.v (.bool r)) ∧ b = [])
theorem lazyclaw25_example_ok (r : Bool) (hF : lazyclaw25_example = some r) : lazyclaw25_example.M r := by
  unfold lazyclaw25_example at hF
  unfold lazyclaw25_example.M
  refine enter tabOk Tryd.func12 rfl (by decide) (Nat.le_of_ble_eq_true rfl) rfl rfl rfl ?_
  refine AWP.seq ?_
  refine nd (by decide) _ _ _ ?_
  (repeat (first | ((conv => whnf); (with_reducible refine And.intro ?_ ?_); (focus (first | exact Eq.refl _ | exact trivial | exact Int.natCast_nonneg _ | assumption | exact Nat.le_of_ble_eq_true (Eq.refl true) | decide))))); (conv => whnf)
  refine AWP.seq ?_
  refine nd (by decide) _ _ _ ?_
  (repeat (first | ((conv => whnf); (with_reducible refine And.intro ?_ ?_); (focus (first | exact Eq.refl _ | exact trivial | exact Int.natCast_nonneg _ | assumption | exact Nat.le_of_ble_eq_true (Eq.refl true) | decide))))); (conv => whnf)
  refine AWP.seq ?_
  refine nd (by decide) _ _ _ ?_
  (repeat (first | ((conv => whnf); (with_reducible refine And.intro ?_ ?_); (focus (first | exact Eq.refl _ | exact trivial | exact Int.natCast_nonneg _ | assumption | exact Nat.le_of_ble_eq_true (Eq.refl true) | decide))))); (conv => whnf)
  refine Exists.intro _ (And.intro (we_rows (f := TValue.cells) (wl_eq (TValue.cells_eq (TValue.mk 2 (ByteArray.mk #[]) 97 ([] : List TValue) (TExcSet.mk false ([] : List TExc)))) (wl_cons (WE.refl _) (wl_cons (WE.refl _) (wl_cons (WE.refl _) (wl_cons WE.nil (wl_cons (WE.refl _) (wl_cons WE.nil wl_nil))))))) (we_rows (f := TValue.cells) (wl_eq (TValue.cells_eq (TValue.mk 3 (ByteArray.mk #[91, 93]) 0 ([] : List TValue) (TExcSet.mk false ([] : List TExc)))) (wl_cons (WE.refl _) (wl_cons (WE.refl _) (wl_cons (WE.refl _) (wl_cons WE.nil (wl_cons (WE.refl _) (wl_cons WE.nil wl_nil))))))) (we_rows_nil (f := TValue.cells)))) ?_)
  (repeat (first | ((conv => whnf); (with_reducible refine And.intro ?_ ?_); (focus (first | exact Eq.refl _ | exact trivial | exact Int.natCast_nonneg _ | assumption | exact Nat.le_of_ble_eq_true (Eq.refl true) | decide))))); (conv => whnf)
  refine AWP.seq ?_
  obtain ⟨r1, hr1, hF⟩ := bind_some hF
  refine nd (by decide) _ _ _ ?_
  (repeat (first | ((conv => whnf); (with_reducible refine And.intro ?_ ?_); (focus (first | exact Eq.refl _ | exact trivial | exact Int.natCast_nonneg _ | assumption | exact Nat.le_of_ble_eq_true (Eq.refl true) | decide))))); (conv => whnf)
  refine Exists.intro [] ?_
  (repeat (first | ((conv => whnf); (with_reducible refine And.intro ?_ ?_); (focus (first | exact Eq.refl _ | exact trivial | exact Int.natCast_nonneg _ | assumption | exact Nat.le_of_ble_eq_true (Eq.refl true) | decide))))); (conv => whnf)
  refine CallsX.mono (CallsX.weak (rn []) (values_Text_ok (TValue.mk 3 (ByteArray.mk #[58]) 0 ([(TValue.mk 2 (ByteArray.mk #[]) 97 ([] : List TValue) (TExcSet.mk false ([] : List TExc))), (TValue.mk 3 (ByteArray.mk #[91, 93]) 0 ([] : List TValue) (TExcSet.mk false ([] : List TExc)))]) (TExcSet.mk false ([] : List TExc))) _ hr1) rfl (WS.mk (wt_cons (wd_agg (wl_cons (WE.refl _) (wl_cons (WE.refl _) (wl_cons (WE.refl _) (wl_cons (WE.refl _) (wl_cons (WE.refl _) (wl_cons WE.nil wl_nil))))))) wt_nil) wb_nil)) ?_
  rintro d b ⟨rfl, rfl⟩
  (repeat (first | ((conv => whnf); (with_reducible refine And.intro ?_ ?_); (focus (first | exact Eq.refl _ | exact trivial | exact Int.natCast_nonneg _ | assumption | exact Nat.le_of_ble_eq_true (Eq.refl true) | decide))))); (conv => whnf)
  (repeat (first | ((conv => whnf); (with_reducible refine And.intro ?_ ?_); (focus (first | exact Eq.refl _ | exact trivial | exact Int.natCast_nonneg _ | assumption | exact Nat.le_of_ble_eq_true (Eq.refl true) | decide))))); (conv => whnf)
  refine AWP.seq ?_
  refine nd (by decide) _ _ _ ?_
  (repeat (first | ((conv => whnf); (with_reducible refine And.intro ?_ ?_); (focus (first | exact Eq.refl _ | exact trivial | exact Int.natCast_nonneg _ | assumption | exact Nat.le_of_ble_eq_true (Eq.refl true) | decide))))); (conv => whnf)
  refine AWP.seq ?_
  obtain ⟨r2, hr2, hF⟩ := bind_some hF
  obtain ⟨c4, hc4, hF⟩ := bind_some hF
  obtain ⟨c6, hc6, hF⟩ := bind_some hF
  refine AWP.cutN (fun T => ∃ r, WS r T ⟨[(0, .c none (.v (.bool c6)))], []⟩) ?_ (fun T hw => ?_)
  · refine nd (by decide) _ _ _ ?_
    (repeat (first | ((conv => whnf); (with_reducible refine And.intro ?_ ?_); (focus (first | exact Eq.refl _ | exact trivial | exact Int.natCast_nonneg _ | assumption | exact Nat.le_of_ble_eq_true (Eq.refl true) | decide))))); (conv => whnf)
    refine Exists.intro [] ?_
    (repeat (first | ((conv => whnf); (with_reducible refine And.intro ?_ ?_); (focus (first | exact Eq.refl _ | exact trivial | exact Int.natCast_nonneg _ | assumption | exact Nat.le_of_ble_eq_true (Eq.refl true) | decide))))); (conv => whnf)
    refine CallsX.mono (CallsX.weak (rn []) (values_Print_ok (TValue.mk 3 (ByteArray.mk #[58]) 0 ([(TValue.mk 2 (ByteArray.mk #[]) 97 ([] : List TValue) (TExcSet.mk false ([] : List TExc))), (TValue.mk 3 (ByteArray.mk #[91, 93]) 0 ([] : List TValue) (TExcSet.mk false ([] : List TExc)))]) (TExcSet.mk false ([] : List TExc))) _ hr2) rfl (WS.mk (wt_cons (wd_agg (wl_cons (WE.refl _) (wl_cons (WE.refl _) (wl_cons (WE.refl _) (wl_cons (WE.refl _) (wl_cons (WE.refl _) (wl_cons WE.nil wl_nil))))))) wt_nil) wb_nil)) ?_
    rintro d b ⟨rfl, rfl⟩
    (repeat (first | ((conv => whnf); (with_reducible refine And.intro ?_ ?_); (focus (first | exact Eq.refl _ | exact trivial | exact Int.natCast_nonneg _ | assumption | exact Nat.le_of_ble_eq_true (Eq.refl true) | decide))))); (conv => whnf)
    (repeat (first | ((conv => whnf); (with_reducible refine And.intro ?_ ?_); (focus (first | exact Eq.refl _ | exact trivial | exact Int.natCast_nonneg _ | assumption | exact Nat.le_of_ble_eq_true (Eq.refl true) | decide))))); (conv => whnf)
    refine branchG_intro true (fun hc7 => ?_) (fun hc7 => ?_)
    · (conv => whnf)
      (repeat (first | ((conv => whnf); (with_reducible refine And.intro ?_ ?_); (focus (first | exact Eq.refl _ | exact trivial | exact Int.natCast_nonneg _ | assumption | exact Nat.le_of_ble_eq_true (Eq.refl true) | decide))))); (conv => whnf)
      refine branchG_intro true (fun hc8 => ?_) (fun hc8 => ?_)
      · (conv => whnf)
        (repeat (first | ((conv => whnf); (with_reducible refine And.intro ?_ ?_); (focus (first | exact Eq.refl _ | exact trivial | exact Int.natCast_nonneg _ | assumption | exact Nat.le_of_ble_eq_true (Eq.refl true) | decide))))); (conv => whnf)
        refine branchG_intro true (fun hc9 => ?_) (fun hc9 => ?_)
        · have hc4 := if_then (by first | assumption | exact Eq.refl _ | simp only [hc7, hc8, hc9, Bool.and_true, Bool.true_and, Bool.and_false, Bool.false_and, Bool.or_true, Bool.true_or, Bool.or_false, Bool.false_or, Bool.not_true, Bool.not_false, cond_true, cond_false, List.length_map]) hc4
          obtain ⟨r3, hr3, hc4⟩ := bind_some hc4
          (conv => whnf)
          (repeat (first | ((conv => whnf); (with_reducible refine And.intro ?_ ?_); (focus (first | exact Eq.refl _ | exact trivial | exact Int.natCast_nonneg _ | assumption | exact Nat.le_of_ble_eq_true (Eq.refl true) | decide))))); (conv => whnf)
          refine Exists.intro [] ?_
          (repeat (first | ((conv => whnf); (with_reducible refine And.intro ?_ ?_); (focus (first | exact Eq.refl _ | exact trivial | exact Int.natCast_nonneg _ | assumption | exact Nat.le_of_ble_eq_true (Eq.refl true) | decide))))); (conv => whnf)
          refine CallsX.mono (CallsX.weak (rn []) (values_Refines_ok (TValue.mk 3 (ByteArray.mk #[58]) 0 ([(TValue.mk 2 (ByteArray.mk #[]) 97 ([] : List TValue) (TExcSet.mk false ([] : List TExc))), (TValue.mk 3 (ByteArray.mk #[91, 93]) 0 ([] : List TValue) (TExcSet.mk false ([] : List TExc)))]) (TExcSet.mk false ([] : List TExc))) (TValue.mk 5 (ByteArray.mk #[]) 0 ([] : List TValue) (TExcSet.mk true ([] : List TExc))) _ hr3) rfl (WS.mk (wt_cons (wd_agg (wl_cons (WE.refl _) (wl_cons (WE.refl _) (wl_cons (WE.refl _) (wl_cons (WE.refl _) (wl_cons (WE.refl _) (wl_cons WE.nil wl_nil))))))) (wt_cons (wd_agg (wl_cons (WE.refl _) (wl_cons (WE.refl _) (wl_cons (WE.refl _) (wl_cons WE.nil (wl_cons (WE.refl _) (wl_cons WE.nil wl_nil))))))) wt_nil)) wb_nil)) ?_
          rintro d b ⟨rfl, rfl⟩
          (repeat (first | ((conv => whnf); (with_reducible refine And.intro ?_ ?_); (focus (first | exact Eq.refl _ | exact trivial | exact Int.natCast_nonneg _ | assumption | exact Nat.le_of_ble_eq_true (Eq.refl true) | decide))))); (conv => whnf)
          obtain rfl := some_eq hc4
          (repeat (first | ((conv => whnf); (with_reducible refine And.intro ?_ ?_); (focus (first | exact Eq.refl _ | exact trivial | exact Int.natCast_nonneg _ | assumption | exact Nat.le_of_ble_eq_true (Eq.refl true) | decide))))); (conv => whnf)
          refine branchG_intro true (fun hc10 => ?_) (fun hc10 => ?_)
          · have hc6 := if_then (by first | assumption | exact Eq.refl _ | simp only [hc7, hc8, hc9, hc10, Bool.and_true, Bool.true_and, Bool.and_false, Bool.false_and, Bool.or_true, Bool.true_or, Bool.or_false, Bool.false_or, Bool.not_true, Bool.not_false, cond_true, cond_false, List.length_map]) hc6
            obtain ⟨r5, hr5, hc6⟩ := bind_some hc6
            (conv => whnf)
            (repeat (first | ((conv => whnf); (with_reducible refine And.intro ?_ ?_); (focus (first | exact Eq.refl _ | exact trivial | exact Int.natCast_nonneg _ | assumption | exact Nat.le_of_ble_eq_true (Eq.refl true) | decide))))); (conv => whnf)
            refine Exists.intro [] ?_
            (repeat (first | ((conv => whnf); (with_reducible refine And.intro ?_ ?_); (focus (first | exact Eq.refl _ | exact trivial | exact Int.natCast_nonneg _ | assumption | exact Nat.le_of_ble_eq_true (Eq.refl true) | decide))))); (conv => whnf)
            refine CallsX.mono (CallsX.weak (rn []) (values_Refines_ok (TValue.mk 5 (ByteArray.mk #[]) 0 ([] : List TValue) (TExcSet.mk true ([] : List TExc))) (TValue.mk 3 (ByteArray.mk #[58]) 0 ([(TValue.mk 2 (ByteArray.mk #[]) 97 ([] : List TValue) (TExcSet.mk false ([] : List TExc))), (TValue.mk 3 (ByteArray.mk #[91, 93]) 0 ([] : List TValue) (TExcSet.mk false ([] : List TExc)))]) (TExcSet.mk false ([] : List TExc))) _ hr5) rfl (WS.mk (wt_cons (wd_agg (wl_cons (WE.refl _) (wl_cons (WE.refl _) (wl_cons (WE.refl _) (wl_cons WE.nil (wl_cons (WE.refl _) (wl_cons WE.nil wl_nil))))))) (wt_cons (wd_agg (wl_cons (WE.refl _) (wl_cons (WE.refl _) (wl_cons (WE.refl _) (wl_cons (WE.refl _) (wl_cons (WE.refl _) (wl_cons WE.nil wl_nil))))))) wt_nil)) wb_nil)) ?_
            rintro d b ⟨rfl, rfl⟩
            (repeat (first | ((conv => whnf); (with_reducible refine And.intro ?_ ?_); (focus (first | exact Eq.refl _ | exact trivial | exact Int.natCast_nonneg _ | assumption | exact Nat.le_of_ble_eq_true (Eq.refl true) | decide))))); (conv => whnf)
            obtain rfl := some_eq hc6
            (repeat (first | ((conv => whnf); (with_reducible refine And.intro ?_ ?_); (focus (first | exact Eq.refl _ | exact trivial | exact Int.natCast_nonneg _ | assumption | exact Nat.le_of_ble_eq_true (Eq.refl true) | decide))))); (conv => whnf)
            exact Exists.intro (rn []) (WS.mk (wt_cons (wd_c (we_b (by first | exact Eq.refl _ | simp only [hc7, hc8, hc9, hc10, Bool.and_true, Bool.true_and, Bool.and_false, Bool.false_and, Bool.or_true, Bool.true_or, Bool.or_false, Bool.false_or, Bool.not_true, Bool.not_false, cond_true, cond_false, List.length_map]))) wt_nil) wb_nil)
          · have hc6 := if_else (by first | assumption | exact Eq.refl _ | simp only [hc7, hc8, hc9, hc10, Bool.and_true, Bool.true_and, Bool.and_false, Bool.false_and, Bool.or_true, Bool.true_or, Bool.or_false, Bool.false_or, Bool.not_true, Bool.not_false, cond_true, cond_false, List.length_map]) hc6
            (conv => whnf)
            obtain rfl := some_eq hc6
            (repeat (first | ((conv => whnf); (with_reducible refine And.intro ?_ ?_); (focus (first | exact Eq.refl _ | exact trivial | exact Int.natCast_nonneg _ | assumption | exact Nat.le_of_ble_eq_true (Eq.refl true) | decide))))); (conv => whnf)
            exact Exists.intro (rn []) (WS.mk (wt_cons (wd_c (we_b (by first | exact Eq.refl _ | simp only [hc7, hc8, hc9, hc10, Bool.and_true, Bool.true_and, Bool.and_false, Bool.false_and, Bool.or_true, Bool.true_or, Bool.or_false, Bool.false_or, Bool.not_true, Bool.not_false, cond_true, cond_false, List.length_map]))) wt_nil) wb_nil)
        · have hc4 := if_else (by first | assumption | exact Eq.refl _ | simp only [hc7, hc8, hc9, Bool.and_true, Bool.true_and, Bool.and_false, Bool.false_and, Bool.or_true, Bool.true_or, Bool.or_false, Bool.false_or, Bool.not_true, Bool.not_false, cond_true, cond_false, List.length_map]) hc4
          (conv => whnf)
          obtain rfl := some_eq hc4
          have hc6 := if_else (by first | assumption | exact Eq.refl _ | simp only [hc7, hc8, hc9, Bool.and_true, Bool.true_and, Bool.and_false, Bool.false_and, Bool.or_true, Bool.true_or, Bool.or_false, Bool.false_or, Bool.not_true, Bool.not_false, cond_true, cond_false, List.length_map]) hc6
          obtain rfl := some_eq hc6
          (repeat (first | ((conv => whnf); (with_reducible refine And.intro ?_ ?_); (focus (first | exact Eq.refl _ | exact trivial | exact Int.natCast_nonneg _ | assumption | exact Nat.le_of_ble_eq_true (Eq.refl true) | decide))))); (conv => whnf)
          exact Exists.intro (rn []) (WS.mk (wt_cons (wd_c (we_b (by first | exact Eq.refl _ | simp only [hc7, hc8, hc9, Bool.and_true, Bool.true_and, Bool.and_false, Bool.false_and, Bool.or_true, Bool.true_or, Bool.or_false, Bool.false_or, Bool.not_true, Bool.not_false, cond_true, cond_false, List.length_map]))) wt_nil) wb_nil)
      · (conv => whnf)
        have hc4 := if_else (by first | assumption | exact Eq.refl _ | simp only [hc7, hc8, Bool.and_true, Bool.true_and, Bool.and_false, Bool.false_and, Bool.or_true, Bool.true_or, Bool.or_false, Bool.false_or, Bool.not_true, Bool.not_false, cond_true, cond_false, List.length_map]) hc4
        obtain rfl := some_eq hc4
        have hc6 := if_else (by first | assumption | exact Eq.refl _ | simp only [hc7, hc8, Bool.and_true, Bool.true_and, Bool.and_false, Bool.false_and, Bool.or_true, Bool.true_or, Bool.or_false, Bool.false_or, Bool.not_true, Bool.not_false, cond_true, cond_false, List.length_map]) hc6
        obtain rfl := some_eq hc6
        (repeat (first | ((conv => whnf); (with_reducible refine And.intro ?_ ?_); (focus (first | exact Eq.refl _ | exact trivial | exact Int.natCast_nonneg _ | assumption | exact Nat.le_of_ble_eq_true (Eq.refl true) | decide))))); (conv => whnf)
        exact Exists.intro (rn []) (WS.mk (wt_cons (wd_c (we_b (by first | exact Eq.refl _ | simp only [hc7, hc8, Bool.and_true, Bool.true_and, Bool.and_false, Bool.false_and, Bool.or_true, Bool.true_or, Bool.or_false, Bool.false_or, Bool.not_true, Bool.not_false, cond_true, cond_false, List.length_map]))) wt_nil) wb_nil)
    · (conv => whnf)
      have hc4 := if_else (by first | assumption | exact Eq.refl _ | simp only [hc7, Bool.and_true, Bool.true_and, Bool.and_false, Bool.false_and, Bool.or_true, Bool.true_or, Bool.or_false, Bool.false_or, Bool.not_true, Bool.not_false, cond_true, cond_false, List.length_map]) hc4
      obtain rfl := some_eq hc4
      have hc6 := if_else (by first | assumption | exact Eq.refl _ | simp only [hc7, Bool.and_true, Bool.true_and, Bool.and_false, Bool.false_and, Bool.or_true, Bool.true_or, Bool.or_false, Bool.false_or, Bool.not_true, Bool.not_false, cond_true, cond_false, List.length_map]) hc6
      obtain rfl := some_eq hc6
      (repeat (first | ((conv => whnf); (with_reducible refine And.intro ?_ ?_); (focus (first | exact Eq.refl _ | exact trivial | exact Int.natCast_nonneg _ | assumption | exact Nat.le_of_ble_eq_true (Eq.refl true) | decide))))); (conv => whnf)
      exact Exists.intro (rn []) (WS.mk (wt_cons (wd_c (we_b (by first | exact Eq.refl _ | simp only [hc7, Bool.and_true, Bool.true_and, Bool.and_false, Bool.false_and, Bool.or_true, Bool.true_or, Bool.or_false, Bool.false_or, Bool.not_true, Bool.not_false, cond_true, cond_false, List.length_map]))) wt_nil) wb_nil)
  obtain ⟨r0, hw⟩ := hw
  (conv => whnf)
  refine AWP.weak r0 hw ?_
  obtain rfl := some_eq hF
  refine nd (by decide) _ _ _ ?_
  (repeat (first | ((conv => whnf); (with_reducible refine And.intro ?_ ?_); (focus (first | exact Eq.refl _ | exact trivial | exact Int.natCast_nonneg _ | assumption | exact Nat.le_of_ble_eq_true (Eq.refl true) | decide))))); (conv => whnf)
  exact Exists.intro (rn []) (WS.mk (wt_cons (wd_c (WE.refl _)) wt_nil) wb_nil)
end Go.Proofs.YtafniolcakiljaaDoor

set_option linter.unusedVariables false
set_option linter.unusedSimpArgs false
set_option maxRecDepth 100000
set_option maxHeartbeats 4000000
namespace Go.Proofs.YtafniolcakiljaaDoor
open Go Go.Am
def slices_Equal_Exc_l1 (s1_ : (List TExc)) (s2_ : (List TExc)) (x_13 : Nat) (x_13_s_ : (List TExc)) : Option (Bool) :=
  (match x_13_s_ with
  | x19 :: xs20 =>
  (s2_[x_13]?) >>= fun x22 =>
  if (!((x19.fCon.toList == x22.fCon.toList) && ((x19.fN == x22.fN) && true))) = true then
  some false
  else
  slices_Equal_Exc_l1 s1_ s2_ (x_13 + 1) xs20
  | [] =>
  some true)
  partial_fixpoint
def slices_Equal_Exc_l1.M (s1_ : (List TExc)) (s2_ : (List TExc)) (x_13 : Nat) (x_13_s_ : (List TExc)) (r : Bool) : Prop :=
  ∀ pre_x_13 : List TExc, s1_ = pre_x_13 ++ x_13_s_ → x_13 = pre_x_13.length → s1_.length ≤ maxLen → s2_.length ≤ maxLen → AWL Tryd.prog 26 (Code.sub (bodyOf Tryd.f47) [1, 1, 0, 1, 0, 0]) (Code.cont Tryd.prog 26 (bodyOf Tryd.f47) [1, 1, 0, 1, 0] (endK tab Tryd.f47.results [] (WRes (.c none (.v (.bool r))) []))) ⟨[(0, .c none (.sl (s1_.map TExc.cells))), (1, .c none (.sl (s2_.map TExc.cells))), (12, .c none (.v (.int .i64 ((s1_.length : Nat) : Int)))), (13, .c none (.v (.int .i64 ((x_13 : Nat) : Int))))], []⟩
theorem slices_Equal_Exc_l1_ok (s1_ : (List TExc)) (s2_ : (List TExc)) (x_13 : Nat) (x_13_s_ : (List TExc)) : ∀ r, slices_Equal_Exc_l1 s1_ s2_ x_13 x_13_s_ = some r → slices_Equal_Exc_l1.M s1_ s2_ x_13 x_13_s_ r := by
  refine slices_Equal_Exc_l1.partial_correctness s1_ s2_ (fun x_13 x_13_s_ r => slices_Equal_Exc_l1.M s1_ s2_ x_13 x_13_s_ r) ?_ x_13 x_13_s_
  intro slices_Equal_Exc_l1' ih0_slices_Equal_Exc_l1 x_13 x_13_s_ r hF
  have ih_slices_Equal_Exc_l1 := fun (_s1_ : (List TExc)) (_s2_ : (List TExc)) (x_13 : Nat) (x_13_s_ : (List TExc)) => ih0_slices_Equal_Exc_l1 x_13 x_13_s_
  clear ih0_slices_Equal_Exc_l1
  unfold slices_Equal_Exc_l1.M
  intro pre_x_13 hs_x_13 hk_x_13 hlen7 hlen5
  refine AWL.step ?_
  refine AWP.seq ?_
  refine nd (by decide) _ _ _ ?_
  (repeat (first | ((conv => whnf); (with_reducible refine And.intro ?_ ?_); (focus (first | exact Eq.refl _ | exact trivial | exact Int.natCast_nonneg _ | assumption | exact Nat.le_of_ble_eq_true (Eq.refl true) | decide))))); (conv => whnf)
  refine AWP.seq ?_
  refine nd (by decide) _ _ _ ?_
  (conv => whnf)
  refine branch_list hs_x_13 hk_x_13 (fun x19 xs20 hp21 hx21 hl21 => ?_) (fun hp21 => ?_)
  · subst hp21
    refine nd (by decide) _ _ _ ?_
    (conv => whnf)
    refine AWP.seq ?_
    refine AWP.block ?_
    refine AWP.seq ?_
    refine nd (by decide) _ _ _ ?_
    (repeat (first | ((conv => whnf); (with_reducible refine And.intro ?_ ?_); (focus (first | exact Eq.refl _ | exact trivial | exact Int.natCast_nonneg _ | assumption | exact Nat.le_of_ble_eq_true (Eq.refl true) | decide))))); (conv => whnf)
    refine AWP.seq ?_
    obtain ⟨x22, hx22, hF⟩ := bind_some hF
    refine nd (by decide) _ _ _ ?_
    refine Exists.intro 8 (Exists.intro [[], [], [], [], [], [], [], []] (Exists.intro [([16, 17, 18, 19, 20, 21, 22, 23], [], []), ([16, 17, 18, 19, 20, 21, 22, 23], [], []), ([18, 19, 20, 21, 22, 23], [], []), ([19, 20, 21, 22, 23], [], []), ([16, 17, 18, 19, 20, 21, 22, 23], [], []), ([16, 17, 18, 19, 20, 21, 22, 23], [], []), ([16, 17, 18, 19, 22, 23], [], []), ([16, 17, 18, 19, 23], [], [])] (Exists.intro [16, 17, 18, 19, 20, 21, 22, 23] (And.intro (by decide +kernel) ?_))))
    ((repeat (first | ((conv => whnf); (with_reducible refine And.intro ?_ ?_); (focus (first | exact Eq.refl _ | exact trivial | exact Int.natCast_nonneg _ | assumption | exact Nat.le_of_ble_eq_true (Eq.refl true) | decide))))); (conv => whnf); apply Exists.intro; apply Exists.intro; apply And.intro; (focus (((repeat (first | ((conv => whnf); (with_reducible refine And.intro ?_ ?_); (focus (first | exact Eq.refl _ | exact trivial | exact Int.natCast_nonneg _ | assumption | exact Nat.le_of_ble_eq_true (Eq.refl true) | decide))))); (conv => whnf)) <;> (exact rfl))); apply And.intro; (focus exact rfl); (conv => whnf))
    ((repeat (first | ((conv => whnf); (with_reducible refine And.intro ?_ ?_); (focus (first | exact Eq.refl _ | exact trivial | exact Int.natCast_nonneg _ | assumption | exact Nat.le_of_ble_eq_true (Eq.refl true) | decide))))); (conv => whnf); apply Exists.intro; apply Exists.intro; apply And.intro; (focus (((repeat (first | ((conv => whnf); (with_reducible refine And.intro ?_ ?_); (focus (first | exact Eq.refl _ | exact trivial | exact Int.natCast_nonneg _ | assumption | exact Nat.le_of_ble_eq_true (Eq.refl true) | decide))))); (conv => whnf)) <;> (exact rfl))); apply And.intro; (focus exact rfl); (conv => whnf))
    ((repeat (first | ((conv => whnf); (with_reducible refine And.intro ?_ ?_); (focus (first | exact Eq.refl _ | exact trivial | exact Int.natCast_nonneg _ | assumption | exact Nat.le_of_ble_eq_true (Eq.refl true) | decide))))); (conv => whnf); apply Exists.intro; apply Exists.intro; apply And.intro; (focus (((repeat (first | ((conv => whnf); (with_reducible refine And.intro ?_ ?_); (focus (first | exact Eq.refl _ | exact trivial | exact Int.natCast_nonneg _ | assumption | exact Nat.le_of_ble_eq_true (Eq.refl true) | decide))))); (conv => whnf)) <;> (rw [map_get (TExc.cells_eq x19) hx21]) <;> ((repeat (first | ((conv => whnf); (with_reducible refine And.intro ?_ ?_); (focus (first | exact Eq.refl _ | exact trivial | exact Int.natCast_nonneg _ | assumption | exact Nat.le_of_ble_eq_true (Eq.refl true) | decide))))); (conv => whnf)) <;> (exact rfl))); apply And.intro; (focus exact rfl); (conv => whnf))
    ((repeat (first | ((conv => whnf); (with_reducible refine And.intro ?_ ?_); (focus (first | exact Eq.refl _ | exact trivial | exact Int.natCast_nonneg _ | assumption | exact Nat.le_of_ble_eq_true (Eq.refl true) | decide))))); (conv => whnf); apply Exists.intro; apply Exists.intro; apply And.intro; (focus (((repeat (first | ((conv => whnf); (with_reducible refine And.intro ?_ ?_); (focus (first | exact Eq.refl _ | exact trivial | exact Int.natCast_nonneg _ | assumption | exact Nat.le_of_ble_eq_true (Eq.refl true) | decide))))); (conv => whnf)) <;> (exact rfl))); apply And.intro; (focus exact rfl); (conv => whnf))
    ((repeat (first | ((conv => whnf); (with_reducible refine And.intro ?_ ?_); (focus (first | exact Eq.refl _ | exact trivial | exact Int.natCast_nonneg _ | assumption | exact Nat.le_of_ble_eq_true (Eq.refl true) | decide))))); (conv => whnf); apply Exists.intro; apply Exists.intro; apply And.intro; (focus (((repeat (first | ((conv => whnf); (with_reducible refine And.intro ?_ ?_); (focus (first | exact Eq.refl _ | exact trivial | exact Int.natCast_nonneg _ | assumption | exact Nat.le_of_ble_eq_true (Eq.refl true) | decide))))); (conv => whnf)) <;> (exact rfl))); apply And.intro; (focus exact rfl); (conv => whnf))
    ((repeat (first | ((conv => whnf); (with_reducible refine And.intro ?_ ?_); (focus (first | exact Eq.refl _ | exact trivial | exact Int.natCast_nonneg _ | assumption | exact Nat.le_of_ble_eq_true (Eq.refl true) | decide))))); (conv => whnf); apply Exists.intro; apply Exists.intro; apply And.intro; (focus (((repeat (first | ((conv => whnf); (with_reducible refine And.intro ?_ ?_); (focus (first | exact Eq.refl _ | exact trivial | exact Int.natCast_nonneg _ | assumption | exact Nat.le_of_ble_eq_true (Eq.refl true) | decide))))); (conv => whnf)) <;> (exact rfl))); apply And.intro; (focus exact rfl); (conv => whnf))
    ((repeat (first | ((conv => whnf); (with_reducible refine And.intro ?_ ?_); (focus (first | exact Eq.refl _ | exact trivial | exact Int.natCast_nonneg _ | assumption | exact Nat.le_of_ble_eq_true (Eq.refl true) | decide))))); (conv => whnf); apply Exists.intro; apply Exists.intro; apply And.intro; (focus (((repeat (first | ((conv => whnf); (with_reducible refine And.intro ?_ ?_); (focus (first | exact Eq.refl _ | exact trivial | exact Int.natCast_nonneg _ | assumption | exact Nat.le_of_ble_eq_true (Eq.refl true) | decide))))); (conv => whnf)) <;> (rw [map_get (TExc.cells_eq x22) hx22]) <;> ((repeat (first | ((conv => whnf); (with_reducible refine And.intro ?_ ?_); (focus (first | exact Eq.refl _ | exact trivial | exact Int.natCast_nonneg _ | assumption | exact Nat.le_of_ble_eq_true (Eq.refl true) | decide))))); (conv => whnf)) <;> (exact rfl))); apply And.intro; (focus exact rfl); (conv => whnf))
    ((repeat (first | ((conv => whnf); (with_reducible refine And.intro ?_ ?_); (focus (first | exact Eq.refl _ | exact trivial | exact Int.natCast_nonneg _ | assumption | exact Nat.le_of_ble_eq_true (Eq.refl true) | decide))))); (conv => whnf); apply Exists.intro; apply Exists.intro; apply And.intro; (focus (((repeat (first | ((conv => whnf); (with_reducible refine And.intro ?_ ?_); (focus (first | exact Eq.refl _ | exact trivial | exact Int.natCast_nonneg _ | assumption | exact Nat.le_of_ble_eq_true (Eq.refl true) | decide))))); (conv => whnf)) <;> (exact rfl))); apply And.intro; (focus exact rfl); (conv => whnf))
    (repeat (first | ((conv => whnf); (with_reducible refine And.intro ?_ ?_); (focus (first | exact Eq.refl _ | exact trivial | exact Int.natCast_nonneg _ | assumption | exact Nat.le_of_ble_eq_true (Eq.refl true) | decide))))); (conv => whnf)
    refine nd (by decide) _ _ _ ?_
    (conv => whnf)
    refine branch_hF hF (fun hc23 hF => ?_) (fun hc23 hF => ?_)
    · refine AWP.seq ?_
      refine nd (by decide) _ _ _ ?_
      (repeat (first | ((conv => whnf); (with_reducible refine And.intro ?_ ?_); (focus (first | exact Eq.refl _ | exact trivial | exact Int.natCast_nonneg _ | assumption | exact Nat.le_of_ble_eq_true (Eq.refl true) | decide))))); (conv => whnf)
      obtain rfl := some_eq hF
      refine nd (by decide) _ _ _ ?_
      (repeat (first | ((conv => whnf); (with_reducible refine And.intro ?_ ?_); (focus (first | exact Eq.refl _ | exact trivial | exact Int.natCast_nonneg _ | assumption | exact Nat.le_of_ble_eq_true (Eq.refl true) | decide))))); (conv => whnf)
      exact Exists.intro (rn []) (WS.mk (wt_cons (wd_c (WE.refl _)) wt_nil) wb_nil)
    · refine nd (by decide) _ _ _ ?_
      (conv => whnf)
      refine nd (by decide) _ _ _ ?_
      (repeat (first | ((conv => whnf); (with_reducible refine And.intro ?_ ?_); (focus (first | exact Eq.refl _ | exact trivial | exact Int.natCast_nonneg _ | assumption | exact Nat.le_of_ble_eq_true (Eq.refl true) | decide))))); (conv => whnf)
      refine AWL.weak (rn []) ?_ (ih_slices_Equal_Exc_l1 s1_ s2_ (x_13 + 1) xs20 _ hF (pre_x_13 ++ [x19]) (by rw [hs_x_13]; simp) (by rw [hk_x_13]; simp) hlen7 hlen5)
      exact (WS.mk (wt_cons (wd_c (WE.refl _)) (wt_cons (wd_c (WE.refl _)) (wt_cons (wd_c (WE.refl _)) (wt_cons (wd_c (we_i (wrap_succ hlen7 hl21))) wt_nil)))) wb_nil)
  · subst hp21
    refine nd (by decide) _ _ _ ?_
    (conv => whnf)
    refine AWP.seq ?_
    refine nd (by decide) _ _ _ ?_
    (repeat (first | ((conv => whnf); (with_reducible refine And.intro ?_ ?_); (focus (first | exact Eq.refl _ | exact trivial | exact Int.natCast_nonneg _ | assumption | exact Nat.le_of_ble_eq_true (Eq.refl true) | decide))))); (conv => whnf)
    obtain rfl := some_eq hF
    refine nd (by decide) _ _ _ ?_
    (repeat (first | ((conv => whnf); (with_reducible refine And.intro ?_ ?_); (focus (first | exact Eq.refl _ | exact trivial | exact Int.natCast_nonneg _ | assumption | exact Nat.le_of_ble_eq_true (Eq.refl true) | decide))))); (conv => whnf)
    exact Exists.intro (rn []) (WS.mk (wt_cons (wd_c (WE.refl _)) wt_nil) wb_nil)
end Go.Proofs.YtafniolcakiljaaDoor

set_option linter.unusedVariables false
set_option linter.unusedSimpArgs false
set_option maxRecDepth 100000
set_option maxHeartbeats 4000000
namespace Go.Proofs.YtafniolcakiljaaDoor
open Go Go.Am
def slices_Equal_Exc (s1_ : (List TExc)) (s2_ : (List TExc)) : Option (Bool) :=
  if (((s1_.length : Nat) : Int) != ((s2_.length : Nat) : Int)) = true then
  some false
  else
  slices_Equal_Exc_l1 s1_ s2_ 0 s1_
def slices_Equal_Exc.M (s1_ : (List TExc)) (s2_ : (List TExc)) (r : Bool) : Prop :=
  CallsX Tryd.prog 47 [.c none (.sl (s1_.map TExc.cells)), .c none (.sl (s2_.map TExc.cells))] [] (fun d b => d = .c none (.v (.bool r)) ∧ b = [])
theorem slices_Equal_Exc_ok (s1_ : (List TExc)) (s2_ : (List TExc)) (r : Bool) (hF : slices_Equal_Exc s1_ s2_ = some r) : slices_Equal_Exc.M s1_ s2_ r := by
  unfold slices_Equal_Exc at hF
  unfold slices_Equal_Exc.M
  refine enter tabOk Tryd.func47 rfl (by decide) (Nat.le_of_ble_eq_true rfl) rfl rfl rfl ?_
  refine AWP.seq ?_
  refine nd (by decide) _ _ _ ?_
  (repeat (first | ((conv => whnf); (with_reducible refine And.intro ?_ ?_); (focus (first | exact Eq.refl _ | exact trivial | exact Int.natCast_nonneg _ | assumption | exact Nat.le_of_ble_eq_true (Eq.refl true) | decide))))); (conv => whnf)
  refine AWP.seq ?_
  refine AWP.seq ?_
  refine nd (by decide) _ _ _ ?_
  (repeat (first | ((conv => whnf); (with_reducible refine And.intro ?_ ?_); (focus (first | exact Eq.refl _ | exact trivial | exact Int.natCast_nonneg _ | assumption | exact Nat.le_of_ble_eq_true (Eq.refl true) | decide))))); (conv => whnf)
  intro hlen4
  (try rw [List.length_map] at hlen4)
  (try rw [List.length_map])
  (repeat (first | ((conv => whnf); (with_reducible refine And.intro ?_ ?_); (focus (first | exact Eq.refl _ | exact trivial | exact Int.natCast_nonneg _ | assumption | exact Nat.le_of_ble_eq_true (Eq.refl true) | decide))))); (conv => whnf)
  intro hlen5
  (try rw [List.length_map] at hlen5)
  (try rw [List.length_map])
  (repeat (first | ((conv => whnf); (with_reducible refine And.intro ?_ ?_); (focus (first | exact Eq.refl _ | exact trivial | exact Int.natCast_nonneg _ | assumption | exact Nat.le_of_ble_eq_true (Eq.refl true) | decide))))); (conv => whnf)
  refine nd (by decide) _ _ _ ?_
  (conv => whnf)
  refine branch_hF hF (fun hc6 hF => ?_) (fun hc6 hF => ?_)
  · refine AWP.seq ?_
    refine nd (by decide) _ _ _ ?_
    (repeat (first | ((conv => whnf); (with_reducible refine And.intro ?_ ?_); (focus (first | exact Eq.refl _ | exact trivial | exact Int.natCast_nonneg _ | assumption | exact Nat.le_of_ble_eq_true (Eq.refl true) | decide))))); (conv => whnf)
    obtain rfl := some_eq hF
    refine nd (by decide) _ _ _ ?_
    (repeat (first | ((conv => whnf); (with_reducible refine And.intro ?_ ?_); (focus (first | exact Eq.refl _ | exact trivial | exact Int.natCast_nonneg _ | assumption | exact Nat.le_of_ble_eq_true (Eq.refl true) | decide))))); (conv => whnf)
    exact Exists.intro (rn []) (WS.mk (wt_cons (wd_c (WE.refl _)) wt_nil) wb_nil)
  · refine nd (by decide) _ _ _ ?_
    (conv => whnf)
    refine AWP.seq ?_
    refine AWP.seq ?_
    refine nd (by decide) _ _ _ ?_
    (repeat (first | ((conv => whnf); (with_reducible refine And.intro ?_ ?_); (focus (first | exact Eq.refl _ | exact trivial | exact Int.natCast_nonneg _ | assumption | exact Nat.le_of_ble_eq_true (Eq.refl true) | decide))))); (conv => whnf)
    intro hlen7
    (try rw [List.length_map] at hlen7)
    (try rw [List.length_map])
    (repeat (first | ((conv => whnf); (with_reducible refine And.intro ?_ ?_); (focus (first | exact Eq.refl _ | exact trivial | exact Int.natCast_nonneg _ | assumption | exact Nat.le_of_ble_eq_true (Eq.refl true) | decide))))); (conv => whnf)
    refine AWP.block ?_
    refine AWP.loop ?_
    refine AWL.weak (rn []) ?_ (slices_Equal_Exc_l1_ok s1_ s2_ 0 s1_ _ hF ([]) rfl rfl hlen7 hlen5)
    exact (WS.mk (wt_cons (wd_c (WE.refl _)) (wt_cons (wd_c (WE.refl _)) (wt_cons (wd_c (WE.refl _)) (wt_cons (wd_c (WE.refl _)) wt_nil)))) wb_nil)
end Go.Proofs.YtafniolcakiljaaDoor

set_option linter.unusedVariables false
set_option linter.unusedSimpArgs false
set_option maxRecDepth 100000
set_option maxHeartbeats 4000000
namespace Go.Proofs.YtafniolcakiljaaDoor
open Go Go.Am
mutual
def values_Same (a : TValue) (b : TValue) : Option (Bool) :=
  (if ((((a.fOp == b.fOp) && (a.fName.toList == b.fName.toList)) && (a.fN == b.fN)) && (a.fSet.fAll == b.fSet.fAll)) = true then slices_Equal_Exc a.fSet.fList b.fSet.fList >>= fun r1 =>
  some r1 else some false) >>= fun c2 =>
  (if c2 = true then slices_EqualFunc_Value_values_Same a.fKids b.fKids >>= fun r3 =>
  some r3 else some false) >>= fun c4 =>
  some c4
  partial_fixpoint
def slices_EqualFunc_Value_values_Same (s1_ : (List TValue)) (s2_ : (List TValue)) : Option (Bool) :=
  if (((s1_.length : Nat) : Int) != ((s2_.length : Nat) : Int)) = true then
  some false
  else
  slices_EqualFunc_Value_values_Same_l1 s2_ s1_ 0 s1_
  partial_fixpoint
def slices_EqualFunc_Value_values_Same_l1 (s2_ : (List TValue)) (s1_ : (List TValue)) (x_17 : Nat) (x_17_s_ : (List TValue)) : Option (Bool) :=
  (match x_17_s_ with
  | x21 :: xs22 =>
  (s2_[x_17]?) >>= fun x24 =>
  values_Same x21 x24 >>= fun r25 =>
  if (!r25) = true then
  some false
  else
  slices_EqualFunc_Value_values_Same_l1 s2_ s1_ (x_17 + 1) xs22
  | [] =>
  some true)
  partial_fixpoint
end
def values_Same.M (a : TValue) (b : TValue) (r : Bool) : Prop :=
  CallsX Tryd.prog 22 [.agg [.v (.int .i64 a.fOp), .v (.string a.fName), .v (.int .i64 a.fN), .sl (a.fKids.map TValue.cells), .v (.bool a.fSet.fAll), .sl (a.fSet.fList.map TExc.cells)], .agg [.v (.int .i64 b.fOp), .v (.string b.fName), .v (.int .i64 b.fN), .sl (b.fKids.map TValue.cells), .v (.bool b.fSet.fAll), .sl (b.fSet.fList.map TExc.cells)]] [] (fun d b => d = .c none (.v (.bool r)) ∧ b = [])
def slices_EqualFunc_Value_values_Same.M (s1_ : (List TValue)) (s2_ : (List TValue)) (r : Bool) : Prop :=
  CallsX Tryd.prog 40 [.c none (.sl (s1_.map TValue.cells)), .c none (.sl (s2_.map TValue.cells)), .c none (.v (.func (.func 22) #[] #[]))] [] (fun d b => d = .c none (.v (.bool r)) ∧ b = [])
def slices_EqualFunc_Value_values_Same_l1.M (s2_ : (List TValue)) (s1_ : (List TValue)) (x_17 : Nat) (x_17_s_ : (List TValue)) (r : Bool) : Prop :=
  ∀ pre_x_17 : List TValue, s1_ = pre_x_17 ++ x_17_s_ → x_17 = pre_x_17.length → s1_.length ≤ maxLen → s2_.length ≤ maxLen → AWL Tryd.prog 32 (Code.sub (bodyOf Tryd.f40) [1, 1, 0, 1, 0, 0]) (Code.cont Tryd.prog 32 (bodyOf Tryd.f40) [1, 1, 0, 1, 0] (endK tab Tryd.f40.results [] (WRes (.c none (.v (.bool r))) []))) ⟨[(1, .c none (.sl (s2_.map TValue.cells))), (2, .c none (.v (.func (.func 22) #[] #[]))), (15, .c none (.sl (s1_.map TValue.cells))), (16, .c none (.v (.int .i64 ((s1_.length : Nat) : Int)))), (17, .c none (.v (.int .i64 ((x_17 : Nat) : Int))))], []⟩
theorem values_Same_all : (∀ (a : TValue) (b : TValue), ∀ r, values_Same a b = some r → values_Same.M a b r) ∧ (∀ (s1_ : (List TValue)) (s2_ : (List TValue)), ∀ r, slices_EqualFunc_Value_values_Same s1_ s2_ = some r → slices_EqualFunc_Value_values_Same.M s1_ s2_ r) ∧ (∀ (s2_ : (List TValue)) (s1_ : (List TValue)) (x_17 : Nat) (x_17_s_ : (List TValue)), ∀ r, slices_EqualFunc_Value_values_Same_l1 s2_ s1_ x_17 x_17_s_ = some r → slices_EqualFunc_Value_values_Same_l1.M s2_ s1_ x_17 x_17_s_ r) := by
  refine values_Same.mutual_partial_correctness values_Same.M slices_EqualFunc_Value_values_Same.M slices_EqualFunc_Value_values_Same_l1.M ?_ ?_ ?_
  · intro slices_EqualFunc_Value_values_Same' ih_slices_EqualFunc_Value_values_Same a b r hF
    unfold values_Same.M
    refine enter tabOk Tryd.func22 rfl (by decide) (Nat.le_of_ble_eq_true rfl) rfl rfl rfl ?_
    refine AWP.seq ?_
    refine nd (by decide) _ _ _ ?_
    (repeat (first | ((conv => whnf); (with_reducible refine And.intro ?_ ?_); (focus (first | exact Eq.refl _ | exact trivial | exact Int.natCast_nonneg _ | assumption | exact Nat.le_of_ble_eq_true (Eq.refl true) | decide))))); (conv => whnf)
    refine AWP.seq ?_
    obtain ⟨c2, hc2, hF⟩ := bind_some hF
    obtain ⟨c4, hc4, hF⟩ := bind_some hF
    refine AWP.cutN (fun T => ∃ r, WS r T ⟨[(4, .c none (.v (.bool c4)))], []⟩) ?_ (fun T hw => ?_)
    · refine nd (by decide) _ _ _ ?_
      (repeat (first | ((conv => whnf); (with_reducible refine And.intro ?_ ?_); (focus (first | exact Eq.refl _ | exact trivial | exact Int.natCast_nonneg _ | assumption | exact Nat.le_of_ble_eq_true (Eq.refl true) | decide))))); (conv => whnf)
      refine branchG_intro true (fun hc5 => ?_) (fun hc5 => ?_)
      · (conv => whnf)
        (repeat (first | ((conv => whnf); (with_reducible refine And.intro ?_ ?_); (focus (first | exact Eq.refl _ | exact trivial | exact Int.natCast_nonneg _ | assumption | exact Nat.le_of_ble_eq_true (Eq.refl true) | decide))))); (conv => whnf)
        refine branchG_intro true (fun hc6 => ?_) (fun hc6 => ?_)
        · (conv => whnf)
          (repeat (first | ((conv => whnf); (with_reducible refine And.intro ?_ ?_); (focus (first | exact Eq.refl _ | exact trivial | exact Int.natCast_nonneg _ | assumption | exact Nat.le_of_ble_eq_true (Eq.refl true) | decide))))); (conv => whnf)
          refine branchG_intro true (fun hc7 => ?_) (fun hc7 => ?_)
          · (conv => whnf)
            (repeat (first | ((conv => whnf); (with_reducible refine And.intro ?_ ?_); (focus (first | exact Eq.refl _ | exact trivial | exact Int.natCast_nonneg _ | assumption | exact Nat.le_of_ble_eq_true (Eq.refl true) | decide))))); (conv => whnf)
            refine branchG_intro true (fun hc8 => ?_) (fun hc8 => ?_)
            · have hc2 := if_then (by first | assumption | exact Eq.refl _ | simp only [hc5, hc6, hc7, hc8, Bool.and_true, Bool.true_and, Bool.and_false, Bool.false_and, Bool.or_true, Bool.true_or, Bool.or_false, Bool.false_or, Bool.not_true, Bool.not_false, cond_true, cond_false, List.length_map]) hc2
              obtain ⟨r1, hr1, hc2⟩ := bind_some hc2
              (conv => whnf)
              (repeat (first | ((conv => whnf); (with_reducible refine And.intro ?_ ?_); (focus (first | exact Eq.refl _ | exact trivial | exact Int.natCast_nonneg _ | assumption | exact Nat.le_of_ble_eq_true (Eq.refl true) | decide))))); (conv => whnf)
              refine Exists.intro [] ?_
              (repeat (first | ((conv => whnf); (with_reducible refine And.intro ?_ ?_); (focus (first | exact Eq.refl _ | exact trivial | exact Int.natCast_nonneg _ | assumption | exact Nat.le_of_ble_eq_true (Eq.refl true) | decide))))); (conv => whnf)
              refine CallsX.mono (CallsX.weak (rn []) (slices_Equal_Exc_ok a.fSet.fList b.fSet.fList _ hr1) rfl (WS.mk (wt_cons (wd_c (WE.refl _)) (wt_cons (wd_c (WE.refl _)) wt_nil)) wb_nil)) ?_
              rintro d b ⟨rfl, rfl⟩
              (repeat (first | ((conv => whnf); (with_reducible refine And.intro ?_ ?_); (focus (first | exact Eq.refl _ | exact trivial | exact Int.natCast_nonneg _ | assumption | exact Nat.le_of_ble_eq_true (Eq.refl true) | decide))))); (conv => whnf)
              obtain rfl := some_eq hc2
              (repeat (first | ((conv => whnf); (with_reducible refine And.intro ?_ ?_); (focus (first | exact Eq.refl _ | exact trivial | exact Int.natCast_nonneg _ | assumption | exact Nat.le_of_ble_eq_true (Eq.refl true) | decide))))); (conv => whnf)
              refine branchG_intro true (fun hc9 => ?_) (fun hc9 => ?_)
              · have hc4 := if_then (by first | assumption | exact Eq.refl _ | simp only [hc5, hc6, hc7, hc8, hc9, Bool.and_true, Bool.true_and, Bool.and_false, Bool.false_and, Bool.or_true, Bool.true_or, Bool.or_false, Bool.false_or, Bool.not_true, Bool.not_false, cond_true, cond_false, List.length_map]) hc4
                obtain ⟨r3, hr3, hc4⟩ := bind_some hc4
                (conv => whnf)
                (repeat (first | ((conv => whnf); (with_reducible refine And.intro ?_ ?_); (focus (first | exact Eq.refl _ | exact trivial | exact Int.natCast_nonneg _ | assumption | exact Nat.le_of_ble_eq_true (Eq.refl true) | decide))))); (conv => whnf)
                refine Exists.intro [] ?_
                (repeat (first | ((conv => whnf); (with_reducible refine And.intro ?_ ?_); (focus (first | exact Eq.refl _ | exact trivial | exact Int.natCast_nonneg _ | assumption | exact Nat.le_of_ble_eq_true (Eq.refl true) | decide))))); (conv => whnf)
                refine CallsX.mono (CallsX.weak (rn []) (ih_slices_EqualFunc_Value_values_Same a.fKids b.fKids _ hr3) rfl (WS.mk (wt_cons (wd_c (WE.refl _)) (wt_cons (wd_c (WE.refl _)) (wt_cons (wd_c (WE.refl _)) wt_nil))) wb_nil)) ?_
                rintro d b ⟨rfl, rfl⟩
                (repeat (first | ((conv => whnf); (with_reducible refine And.intro ?_ ?_); (focus (first | exact Eq.refl _ | exact trivial | exact Int.natCast_nonneg _ | assumption | exact Nat.le_of_ble_eq_true (Eq.refl true) | decide))))); (conv => whnf)
                obtain rfl := some_eq hc4
                (repeat (first | ((conv => whnf); (with_reducible refine And.intro ?_ ?_); (focus (first | exact Eq.refl _ | exact trivial | exact Int.natCast_nonneg _ | assumption | exact Nat.le_of_ble_eq_true (Eq.refl true) | decide))))); (conv => whnf)
                exact Exists.intro (rn []) (WS.mk (wt_cons (wd_c (we_b (by first | exact Eq.refl _ | simp only [hc5, hc6, hc7, hc8, hc9, Bool.and_true, Bool.true_and, Bool.and_false, Bool.false_and, Bool.or_true, Bool.true_or, Bool.or_false, Bool.false_or, Bool.not_true, Bool.not_false, cond_true, cond_false, List.length_map]))) wt_nil) wb_nil)
              · have hc4 := if_else (by first | assumption | exact Eq.refl _ | simp only [hc5, hc6, hc7, hc8, hc9, Bool.and_true, Bool.true_and, Bool.and_false, Bool.false_and, Bool.or_true, Bool.true_or, Bool.or_false, Bool.false_or, Bool.not_true, Bool.not_false, cond_true, cond_false, List.length_map]) hc4
                (conv => whnf)
                obtain rfl := some_eq hc4
                (repeat (first | ((conv => whnf); (with_reducible refine And.intro ?_ ?_); (focus (first | exact Eq.refl _ | exact trivial | exact Int.natCast_nonneg _ | assumption | exact Nat.le_of_ble_eq_true (Eq.refl true) | decide))))); (conv => whnf)
                exact Exists.intro (rn []) (WS.mk (wt_cons (wd_c (we_b (by first | exact Eq.refl _ | simp only [hc5, hc6, hc7, hc8, hc9, Bool.and_true, Bool.true_and, Bool.and_false, Bool.false_and, Bool.or_true, Bool.true_or, Bool.or_false, Bool.false_or, Bool.not_true, Bool.not_false, cond_true, cond_false, List.length_map]))) wt_nil) wb_nil)
            · have hc2 := if_else (by first | assumption | exact Eq.refl _ | simp only [hc5, hc6, hc7, hc8, Bool.and_true, Bool.true_and, Bool.and_false, Bool.false_and, Bool.or_true, Bool.true_or, Bool.or_false, Bool.false_or, Bool.not_true, Bool.not_false, cond_true, cond_false, List.length_map]) hc2
              (conv => whnf)
              obtain rfl := some_eq hc2
              have hc4 := if_else (by first | assumption | exact Eq.refl _ | simp only [hc5, hc6, hc7, hc8, Bool.and_true, Bool.true_and, Bool.and_false, Bool.false_and, Bool.or_true, Bool.true_or, Bool.or_false, Bool.false_or, Bool.not_true, Bool.not_false, cond_true, cond_false, List.length_map]) hc4
              obtain rfl := some_eq hc4
              (repeat (first | ((conv => whnf); (with_reducible refine And.intro ?_ ?_); (focus (first | exact Eq.refl _ | exact trivial | exact Int.natCast_nonneg _ | assumption | exact Nat.le_of_ble_eq_true (Eq.refl true) | decide))))); (conv => whnf)
              exact Exists.intro (rn []) (WS.mk (wt_cons (wd_c (we_b (by first | exact Eq.refl _ | simp only [hc5, hc6, hc7, hc8, Bool.and_true, Bool.true_and, Bool.and_false, Bool.false_and, Bool.or_true, Bool.true_or, Bool.or_false, Bool.false_or, Bool.not_true, Bool.not_false, cond_true, cond_false, List.length_map]))) wt_nil) wb_nil)
          · (conv => whnf)
            have hc2 := if_else (by first | assumption | exact Eq.refl _ | simp only [hc5, hc6, hc7, Bool.and_true, Bool.true_and, Bool.and_false, Bool.false_and, Bool.or_true, Bool.true_or, Bool.or_false, Bool.false_or, Bool.not_true, Bool.not_false, cond_true, cond_false, List.length_map]) hc2
            obtain rfl := some_eq hc2
            have hc4 := if_else (by first | assumption | exact Eq.refl _ | simp only [hc5, hc6, hc7, Bool.and_true, Bool.true_and, Bool.and_false, Bool.false_and, Bool.or_true, Bool.true_or, Bool.or_false, Bool.false_or, Bool.not_true, Bool.not_false, cond_true, cond_false, List.length_map]) hc4
            obtain rfl := some_eq hc4
            (repeat (first | ((conv => whnf); (with_reducible refine And.intro ?_ ?_); (focus (first | exact Eq.refl _ | exact trivial | exact Int.natCast_nonneg _ | assumption | exact Nat.le_of_ble_eq_true (Eq.refl true) | decide))))); (conv => whnf)
            exact Exists.intro (rn []) (WS.mk (wt_cons (wd_c (we_b (by first | exact Eq.refl _ | simp only [hc5, hc6, hc7, Bool.and_true, Bool.true_and, Bool.and_false, Bool.false_and, Bool.or_true, Bool.true_or, Bool.or_false, Bool.false_or, Bool.not_true, Bool.not_false, cond_true, cond_false, List.length_map]))) wt_nil) wb_nil)
        · (conv => whnf)
          have hc2 := if_else (by first | assumption | exact Eq.refl _ | simp only [hc5, hc6, Bool.and_true, Bool.true_and, Bool.and_false, Bool.false_and, Bool.or_true, Bool.true_or, Bool.or_false, Bool.false_or, Bool.not_true, Bool.not_false, cond_true, cond_false, List.length_map]) hc2
          obtain rfl := some_eq hc2
          have hc4 := if_else (by first | assumption | exact Eq.refl _ | simp only [hc5, hc6, Bool.and_true, Bool.true_and, Bool.and_false, Bool.false_and, Bool.or_true, Bool.true_or, Bool.or_false, Bool.false_or, Bool.not_true, Bool.not_false, cond_true, cond_false, List.length_map]) hc4
          obtain rfl := some_eq hc4
          (repeat (first | ((conv => whnf); (with_reducible refine And.intro ?_ ?_); (focus (first | exact Eq.refl _ | exact trivial | exact Int.natCast_nonneg _ | assumption | exact Nat.le_of_ble_eq_true (Eq.refl true) | decide))))); (conv => whnf)
          exact Exists.intro (rn []) (WS.mk (wt_cons (wd_c (we_b (by first | exact Eq.refl _ | simp only [hc5, hc6, Bool.and_true, Bool.true_and, Bool.and_false, Bool.false_and, Bool.or_true, Bool.true_or, Bool.or_false, Bool.false_or, Bool.not_true, Bool.not_false, cond_true, cond_false, List.length_map]))) wt_nil) wb_nil)
      · (conv => whnf)
        have hc2 := if_else (by first | assumption | exact Eq.refl _ | simp only [hc5, Bool.and_true, Bool.true_and, Bool.and_false, Bool.false_and, Bool.or_true, Bool.true_or, Bool.or_false, Bool.false_or, Bool.not_true, Bool.not_false, cond_true, cond_false, List.length_map]) hc2
        obtain rfl := some_eq hc2
        have hc4 := if_else (by first | assumption | exact Eq.refl _ | simp only [hc5, Bool.and_true, Bool.true_and, Bool.and_false, Bool.false_and, Bool.or_true, Bool.true_or, Bool.or_false, Bool.false_or, Bool.not_true, Bool.not_false, cond_true, cond_false, List.length_map]) hc4
        obtain rfl := some_eq hc4
        (repeat (first | ((conv => whnf); (with_reducible refine And.intro ?_ ?_); (focus (first | exact Eq.refl _ | exact trivial | exact Int.natCast_nonneg _ | assumption | exact Nat.le_of_ble_eq_true (Eq.refl true) | decide))))); (conv => whnf)
        exact Exists.intro (rn []) (WS.mk (wt_cons (wd_c (we_b (by first | exact Eq.refl _ | simp only [hc5, Bool.and_true, Bool.true_and, Bool.and_false, Bool.false_and, Bool.or_true, Bool.true_or, Bool.or_false, Bool.false_or, Bool.not_true, Bool.not_false, cond_true, cond_false, List.length_map]))) wt_nil) wb_nil)
    obtain ⟨r0, hw⟩ := hw
    (conv => whnf)
    refine AWP.weak r0 hw ?_
    obtain rfl := some_eq hF
    refine nd (by decide) _ _ _ ?_
    (repeat (first | ((conv => whnf); (with_reducible refine And.intro ?_ ?_); (focus (first | exact Eq.refl _ | exact trivial | exact Int.natCast_nonneg _ | assumption | exact Nat.le_of_ble_eq_true (Eq.refl true) | decide))))); (conv => whnf)
    exact Exists.intro (rn []) (WS.mk (wt_cons (wd_c (WE.refl _)) wt_nil) wb_nil)
  · intro slices_EqualFunc_Value_values_Same_l1' ih_slices_EqualFunc_Value_values_Same_l1 s1_ s2_ r hF
    unfold slices_EqualFunc_Value_values_Same.M
    refine enter tabOk Tryd.func40 rfl (by decide) (Nat.le_of_ble_eq_true rfl) rfl rfl rfl ?_
    refine AWP.seq ?_
    refine nd (by decide) _ _ _ ?_
    (repeat (first | ((conv => whnf); (with_reducible refine And.intro ?_ ?_); (focus (first | exact Eq.refl _ | exact trivial | exact Int.natCast_nonneg _ | assumption | exact Nat.le_of_ble_eq_true (Eq.refl true) | decide))))); (conv => whnf)
    refine AWP.seq ?_
    refine AWP.seq ?_
    refine nd (by decide) _ _ _ ?_
    (repeat (first | ((conv => whnf); (with_reducible refine And.intro ?_ ?_); (focus (first | exact Eq.refl _ | exact trivial | exact Int.natCast_nonneg _ | assumption | exact Nat.le_of_ble_eq_true (Eq.refl true) | decide))))); (conv => whnf)
    intro hlen4
    (try rw [List.length_map] at hlen4)
    (try rw [List.length_map])
    (repeat (first | ((conv => whnf); (with_reducible refine And.intro ?_ ?_); (focus (first | exact Eq.refl _ | exact trivial | exact Int.natCast_nonneg _ | assumption | exact Nat.le_of_ble_eq_true (Eq.refl true) | decide))))); (conv => whnf)
    intro hlen5
    (try rw [List.length_map] at hlen5)
    (try rw [List.length_map])
    (repeat (first | ((conv => whnf); (with_reducible refine And.intro ?_ ?_); (focus (first | exact Eq.refl _ | exact trivial | exact Int.natCast_nonneg _ | assumption | exact Nat.le_of_ble_eq_true (Eq.refl true) | decide))))); (conv => whnf)
    refine nd (by decide) _ _ _ ?_
    (conv => whnf)
    refine branch_hF hF (fun hc6 hF => ?_) (fun hc6 hF => ?_)
    · refine AWP.seq ?_
      refine nd (by decide) _ _ _ ?_
      (repeat (first | ((conv => whnf); (with_reducible refine And.intro ?_ ?_); (focus (first | exact Eq.refl _ | exact trivial | exact Int.natCast_nonneg _ | assumption | exact Nat.le_of_ble_eq_true (Eq.refl true) | decide))))); (conv => whnf)
      obtain rfl := some_eq hF
      refine nd (by decide) _ _ _ ?_
      (repeat (first | ((conv => whnf); (with_reducible refine And.intro ?_ ?_); (focus (first | exact Eq.refl _ | exact trivial | exact Int.natCast_nonneg _ | assumption | exact Nat.le_of_ble_eq_true (Eq.refl true) | decide))))); (conv => whnf)
      exact Exists.intro (rn []) (WS.mk (wt_cons (wd_c (WE.refl _)) wt_nil) wb_nil)
    · refine nd (by decide) _ _ _ ?_
      (conv => whnf)
      refine AWP.seq ?_
      refine AWP.seq ?_
      refine nd (by decide) _ _ _ ?_
      (repeat (first | ((conv => whnf); (with_reducible refine And.intro ?_ ?_); (focus (first | exact Eq.refl _ | exact trivial | exact Int.natCast_nonneg _ | assumption | exact Nat.le_of_ble_eq_true (Eq.refl true) | decide))))); (conv => whnf)
      intro hlen7
      (try rw [List.length_map] at hlen7)
      (try rw [List.length_map])
      (repeat (first | ((conv => whnf); (with_reducible refine And.intro ?_ ?_); (focus (first | exact Eq.refl _ | exact trivial | exact Int.natCast_nonneg _ | assumption | exact Nat.le_of_ble_eq_true (Eq.refl true) | decide))))); (conv => whnf)
      refine AWP.block ?_
      refine AWP.loop ?_
      refine AWL.weak (rn []) ?_ (ih_slices_EqualFunc_Value_values_Same_l1 s2_ s1_ 0 s1_ _ hF ([]) rfl rfl hlen7 hlen5)
      exact (WS.mk (wt_cons (wd_c (WE.refl _)) (wt_cons (wd_c (WE.refl _)) (wt_cons (wd_c (WE.refl _)) (wt_cons (wd_c (WE.refl _)) (wt_cons (wd_c (WE.refl _)) wt_nil))))) wb_nil)
  · intro values_Same' slices_EqualFunc_Value_values_Same_l1' ih_values_Same ih_slices_EqualFunc_Value_values_Same_l1 s2_ s1_ x_17 x_17_s_ r hF
    unfold slices_EqualFunc_Value_values_Same_l1.M
    intro pre_x_17 hs_x_17 hk_x_17 hlen7 hlen5
    refine AWL.step ?_
    refine AWP.seq ?_
    refine nd (by decide) _ _ _ ?_
    (repeat (first | ((conv => whnf); (with_reducible refine And.intro ?_ ?_); (focus (first | exact Eq.refl _ | exact trivial | exact Int.natCast_nonneg _ | assumption | exact Nat.le_of_ble_eq_true (Eq.refl true) | decide))))); (conv => whnf)
    refine AWP.seq ?_
    refine nd (by decide) _ _ _ ?_
    (conv => whnf)
    refine branch_list hs_x_17 hk_x_17 (fun x21 xs22 hp23 hx23 hl23 => ?_) (fun hp23 => ?_)
    · subst hp23
      refine nd (by decide) _ _ _ ?_
      (conv => whnf)
      refine AWP.seq ?_
      refine AWP.block ?_
      refine AWP.seq ?_
      refine nd (by decide) _ _ _ ?_
      (repeat (first | ((conv => whnf); (with_reducible refine And.intro ?_ ?_); (focus (first | exact Eq.refl _ | exact trivial | exact Int.natCast_nonneg _ | assumption | exact Nat.le_of_ble_eq_true (Eq.refl true) | decide))) | ((conv => whnf); rw [map_get (TValue.cells_eq x21) hx23]))); (conv => whnf)
      (repeat (first | ((conv => whnf); (with_reducible refine And.intro ?_ ?_); (focus (first | exact Eq.refl _ | exact trivial | exact Int.natCast_nonneg _ | assumption | exact Nat.le_of_ble_eq_true (Eq.refl true) | decide))))); (conv => whnf)
      refine AWP.seq ?_
      obtain ⟨x24, hx24, hF⟩ := bind_some hF
      refine nd (by decide) _ _ _ ?_
      (repeat (first | ((conv => whnf); (with_reducible refine And.intro ?_ ?_); (focus (first | exact Eq.refl _ | exact trivial | exact Int.natCast_nonneg _ | assumption | exact Nat.le_of_ble_eq_true (Eq.refl true) | decide))) | ((conv => whnf); rw [map_get (TValue.cells_eq x24) hx24]))); (conv => whnf)
      (repeat (first | ((conv => whnf); (with_reducible refine And.intro ?_ ?_); (focus (first | exact Eq.refl _ | exact trivial | exact Int.natCast_nonneg _ | assumption | exact Nat.le_of_ble_eq_true (Eq.refl true) | decide))))); (conv => whnf)
      refine AWP.seq ?_
      obtain ⟨r25, hr25, hF⟩ := bind_some hF
      refine nd (by decide) _ _ _ ?_
      (repeat (first | ((conv => whnf); (with_reducible refine And.intro ?_ ?_); (focus (first | exact Eq.refl _ | exact trivial | exact Int.natCast_nonneg _ | assumption | exact Nat.le_of_ble_eq_true (Eq.refl true) | decide))))); (conv => whnf)
      refine Exists.intro [] ?_
      (repeat (first | ((conv => whnf); (with_reducible refine And.intro ?_ ?_); (focus (first | exact Eq.refl _ | exact trivial | exact Int.natCast_nonneg _ | assumption | exact Nat.le_of_ble_eq_true (Eq.refl true) | decide))))); (conv => whnf)
      refine CallsX.mono (CallsX.weak (rn []) (ih_values_Same x21 x24 _ hr25) rfl (WS.mk (wt_cons (wd_agg (wl_cons (WE.refl _) (wl_cons (WE.refl _) (wl_cons (WE.refl _) (wl_cons (WE.refl _) (wl_cons (WE.refl _) (wl_cons (WE.refl _) wl_nil))))))) (wt_cons (wd_agg (wl_cons (WE.refl _) (wl_cons (WE.refl _) (wl_cons (WE.refl _) (wl_cons (WE.refl _) (wl_cons (WE.refl _) (wl_cons (WE.refl _) wl_nil))))))) wt_nil)) wb_nil)) ?_
      rintro d b ⟨rfl, rfl⟩
      (repeat (first | ((conv => whnf); (with_reducible refine And.intro ?_ ?_); (focus (first | exact Eq.refl _ | exact trivial | exact Int.natCast_nonneg _ | assumption | exact Nat.le_of_ble_eq_true (Eq.refl true) | decide))))); (conv => whnf)
      (repeat (first | ((conv => whnf); (with_reducible refine And.intro ?_ ?_); (focus (first | exact Eq.refl _ | exact trivial | exact Int.natCast_nonneg _ | assumption | exact Nat.le_of_ble_eq_true (Eq.refl true) | decide))))); (conv => whnf)
      refine nd (by decide) _ _ _ ?_
      (conv => whnf)
      refine branch_hF hF (fun hc26 hF => ?_) (fun hc26 hF => ?_)
      · refine AWP.seq ?_
        refine nd (by decide) _ _ _ ?_
        (repeat (first | ((conv => whnf); (with_reducible refine And.intro ?_ ?_); (focus (first | exact Eq.refl _ | exact trivial | exact Int.natCast_nonneg _ | assumption | exact Nat.le_of_ble_eq_true (Eq.refl true) | decide))))); (conv => whnf)
        obtain rfl := some_eq hF
        refine nd (by decide) _ _ _ ?_
        (repeat (first | ((conv => whnf); (with_reducible refine And.intro ?_ ?_); (focus (first | exact Eq.refl _ | exact trivial | exact Int.natCast_nonneg _ | assumption | exact Nat.le_of_ble_eq_true (Eq.refl true) | decide))))); (conv => whnf)
        exact Exists.intro (rn []) (WS.mk (wt_cons (wd_c (WE.refl _)) wt_nil) wb_nil)
      · refine nd (by decide) _ _ _ ?_
        (conv => whnf)
        refine nd (by decide) _ _ _ ?_
        (repeat (first | ((conv => whnf); (with_reducible refine And.intro ?_ ?_); (focus (first | exact Eq.refl _ | exact trivial | exact Int.natCast_nonneg _ | assumption | exact Nat.le_of_ble_eq_true (Eq.refl true) | decide))))); (conv => whnf)
        refine AWL.weak (rn []) ?_ (ih_slices_EqualFunc_Value_values_Same_l1 s2_ s1_ (x_17 + 1) xs22 _ hF (pre_x_17 ++ [x21]) (by rw [hs_x_17]; simp) (by rw [hk_x_17]; simp) hlen7 hlen5)
        exact (WS.mk (wt_cons (wd_c (WE.refl _)) (wt_cons (wd_c (WE.refl _)) (wt_cons (wd_c (WE.refl _)) (wt_cons (wd_c (WE.refl _)) (wt_cons (wd_c (we_i (wrap_succ hlen7 hl23))) wt_nil))))) wb_nil)
    · subst hp23
      refine nd (by decide) _ _ _ ?_
      (conv => whnf)
      refine AWP.seq ?_
      refine nd (by decide) _ _ _ ?_
      (repeat (first | ((conv => whnf); (with_reducible refine And.intro ?_ ?_); (focus (first | exact Eq.refl _ | exact trivial | exact Int.natCast_nonneg _ | assumption | exact Nat.le_of_ble_eq_true (Eq.refl true) | decide))))); (conv => whnf)
      obtain rfl := some_eq hF
      refine nd (by decide) _ _ _ ?_
      (repeat (first | ((conv => whnf); (with_reducible refine And.intro ?_ ?_); (focus (first | exact Eq.refl _ | exact trivial | exact Int.natCast_nonneg _ | assumption | exact Nat.le_of_ble_eq_true (Eq.refl true) | decide))))); (conv => whnf)
      exact Exists.intro (rn []) (WS.mk (wt_cons (wd_c (WE.refl _)) wt_nil) wb_nil)
theorem values_Same_ok : ∀ (a : TValue) (b : TValue), ∀ r, values_Same a b = some r → values_Same.M a b r := values_Same_all.1
theorem slices_EqualFunc_Value_values_Same_ok : ∀ (s1_ : (List TValue)) (s2_ : (List TValue)), ∀ r, slices_EqualFunc_Value_values_Same s1_ s2_ = some r → slices_EqualFunc_Value_values_Same.M s1_ s2_ r := values_Same_all.2.1
theorem slices_EqualFunc_Value_values_Same_l1_ok : ∀ (s2_ : (List TValue)) (s1_ : (List TValue)) (x_17 : Nat) (x_17_s_ : (List TValue)), ∀ r, slices_EqualFunc_Value_values_Same_l1 s2_ s1_ x_17 x_17_s_ = some r → slices_EqualFunc_Value_values_Same_l1.M s2_ s1_ x_17 x_17_s_ r := values_Same_all.2.2
end Go.Proofs.YtafniolcakiljaaDoor

set_option linter.unusedVariables false
set_option linter.unusedSimpArgs false
set_option maxRecDepth 100000
set_option maxHeartbeats 4000000
namespace Go.Proofs.YtafniolcakiljaaDoor
open Go Go.Am
def lazycref25_SameSet_l1 (i_5 : Nat) (a : TExcSet) (b : TExcSet) (i_5_s_ : (List TExc)) : Option (Bool) :=
  (match i_5_s_ with
  | x25 :: xs26 =>
  (b.fList[i_5]?) >>= fun x28 =>
  if (!((x25.fCon.toList == x28.fCon.toList) && ((x25.fN == x28.fN) && true))) = true then
  some false
  else
  lazycref25_SameSet_l1 (i_5 + 1) a b xs26
  | [] =>
  some true)
  partial_fixpoint
def lazycref25_SameSet_l1.M (i_5 : Nat) (a : TExcSet) (b : TExcSet) (i_5_s_ : (List TExc)) (r : Bool) : Prop :=
  ∀ pre_i_5 : List TExc, a.fList = pre_i_5 ++ i_5_s_ → i_5 = pre_i_5.length → AWL Tryd.prog 38 (Code.sub (bodyOf Tryd.f26) [1, 1, 0, 1, 0, 0]) (Code.cont Tryd.prog 38 (bodyOf Tryd.f26) [1, 1, 0, 1, 0] (endK tab Tryd.f26.results [] (WRes (.c none (.v (.bool r))) []))) ⟨[(2, .ptr 2 0), (3, .ptr 3 0), (5, .c none (.v (.int .i64 ((i_5 : Nat) : Int))))], [(2, [(none, .v (.bool a.fAll)), (none, .sl (a.fList.map TExc.cells))]), (3, [(none, .v (.bool b.fAll)), (none, .sl (b.fList.map TExc.cells))])]⟩
theorem lazycref25_SameSet_l1_ok (i_5 : Nat) (a : TExcSet) (b : TExcSet) (i_5_s_ : (List TExc)) : ∀ r, lazycref25_SameSet_l1 i_5 a b i_5_s_ = some r → lazycref25_SameSet_l1.M i_5 a b i_5_s_ r := by
  refine lazycref25_SameSet_l1.partial_correctness a b (fun i_5 i_5_s_ r => lazycref25_SameSet_l1.M i_5 a b i_5_s_ r) ?_ i_5 i_5_s_
  intro lazycref25_SameSet_l1' ih0_lazycref25_SameSet_l1 i_5 i_5_s_ r hF
  have ih_lazycref25_SameSet_l1 := fun (i_5 : Nat) (_a : TExcSet) (_b : TExcSet) (i_5_s_ : (List TExc)) => ih0_lazycref25_SameSet_l1 i_5 i_5_s_
  clear ih0_lazycref25_SameSet_l1
  unfold lazycref25_SameSet_l1.M
  intro pre_i_5 hs_i_5 hk_i_5
  refine AWL.step ?_
  refine AWP.seq ?_
  refine AWP.seq ?_
  refine nd (by decide) _ _ _ ?_
  (repeat (first | ((conv => whnf); (with_reducible refine And.intro ?_ ?_); (focus (first | exact Eq.refl _ | exact trivial | exact Int.natCast_nonneg _ | assumption | exact Nat.le_of_ble_eq_true (Eq.refl true) | decide))))); (conv => whnf)
  intro hlen24
  (try rw [List.length_map] at hlen24)
  (try rw [List.length_map])
  (repeat (first | ((conv => whnf); (with_reducible refine And.intro ?_ ?_); (focus (first | exact Eq.refl _ | exact trivial | exact Int.natCast_nonneg _ | assumption | exact Nat.le_of_ble_eq_true (Eq.refl true) | decide))))); (conv => whnf)
  refine nd (by decide) _ _ _ ?_
  (conv => whnf)
  refine branch_list hs_i_5 hk_i_5 (fun x25 xs26 hp27 hx27 hl27 => ?_) (fun hp27 => ?_)
  · subst hp27
    refine nd (by decide) _ _ _ ?_
    (conv => whnf)
    refine AWP.seq ?_
    refine AWP.block ?_
    refine AWP.seq ?_
    obtain ⟨x28, hx28, hF⟩ := bind_some hF
    refine nd (by decide) _ _ _ ?_
    refine Exists.intro 10 (Exists.intro [[], [], [], [], [], [], [], [], [], []] (Exists.intro [([27, 28, 29, 30, 31, 32, 33, 34, 35, 36], [], []), ([28, 29, 30, 31, 32, 33, 34, 35, 36], [], []), ([27, 28, 29, 30, 31, 32, 33, 34, 35, 36], [], []), ([30, 31, 32, 33, 34, 35, 36], [], []), ([31, 32, 33, 34, 35, 36], [], []), ([27, 28, 29, 30, 31, 32, 33, 34, 35, 36], [], []), ([27, 28, 29, 30, 31, 33, 34, 35, 36], [], []), ([27, 28, 29, 30, 31, 32, 33, 34, 35, 36], [], []), ([27, 28, 29, 30, 31, 35, 36], [], []), ([27, 28, 29, 30, 31, 36], [], [])] (Exists.intro [27, 28, 29, 30, 31, 32, 33, 34, 35, 36] (And.intro (by decide +kernel) ?_))))
    ((repeat (first | ((conv => whnf); (with_reducible refine And.intro ?_ ?_); (focus (first | exact Eq.refl _ | exact trivial | exact Int.natCast_nonneg _ | assumption | exact Nat.le_of_ble_eq_true (Eq.refl true) | decide))))); (conv => whnf); apply Exists.intro; apply Exists.intro; apply And.intro; (focus (((repeat (first | ((conv => whnf); (with_reducible refine And.intro ?_ ?_); (focus (first | exact Eq.refl _ | exact trivial | exact Int.natCast_nonneg _ | assumption | exact Nat.le_of_ble_eq_true (Eq.refl true) | decide))))); (conv => whnf)) <;> (exact rfl))); apply And.intro; (focus exact rfl); (conv => whnf))
    ((repeat (first | ((conv => whnf); (with_reducible refine And.intro ?_ ?_); (focus (first | exact Eq.refl _ | exact trivial | exact Int.natCast_nonneg _ | assumption | exact Nat.le_of_ble_eq_true (Eq.refl true) | decide))))); (conv => whnf); apply Exists.intro; apply Exists.intro; apply And.intro; (focus (((repeat (first | ((conv => whnf); (with_reducible refine And.intro ?_ ?_); (focus (first | exact Eq.refl _ | exact trivial | exact Int.natCast_nonneg _ | assumption | exact Nat.le_of_ble_eq_true (Eq.refl true) | decide))))); (conv => whnf)) <;> (exact rfl))); apply And.intro; (focus exact rfl); (conv => whnf))
    ((repeat (first | ((conv => whnf); (with_reducible refine And.intro ?_ ?_); (focus (first | exact Eq.refl _ | exact trivial | exact Int.natCast_nonneg _ | assumption | exact Nat.le_of_ble_eq_true (Eq.refl true) | decide))))); (conv => whnf); apply Exists.intro; apply Exists.intro; apply And.intro; (focus (((repeat (first | ((conv => whnf); (with_reducible refine And.intro ?_ ?_); (focus (first | exact Eq.refl _ | exact trivial | exact Int.natCast_nonneg _ | assumption | exact Nat.le_of_ble_eq_true (Eq.refl true) | decide))))); (conv => whnf)) <;> (exact rfl))); apply And.intro; (focus exact rfl); (conv => whnf))
    ((repeat (first | ((conv => whnf); (with_reducible refine And.intro ?_ ?_); (focus (first | exact Eq.refl _ | exact trivial | exact Int.natCast_nonneg _ | assumption | exact Nat.le_of_ble_eq_true (Eq.refl true) | decide))))); (conv => whnf); apply Exists.intro; apply Exists.intro; apply And.intro; (focus (((repeat (first | ((conv => whnf); (with_reducible refine And.intro ?_ ?_); (focus (first | exact Eq.refl _ | exact trivial | exact Int.natCast_nonneg _ | assumption | exact Nat.le_of_ble_eq_true (Eq.refl true) | decide))))); (conv => whnf)) <;> (rw [map_get (TExc.cells_eq x25) hx27]) <;> ((repeat (first | ((conv => whnf); (with_reducible refine And.intro ?_ ?_); (focus (first | exact Eq.refl _ | exact trivial | exact Int.natCast_nonneg _ | assumption | exact Nat.le_of_ble_eq_true (Eq.refl true) | decide))))); (conv => whnf)) <;> (exact rfl))); apply And.intro; (focus exact rfl); (conv => whnf))
    ((repeat (first | ((conv => whnf); (with_reducible refine And.intro ?_ ?_); (focus (first | exact Eq.refl _ | exact trivial | exact Int.natCast_nonneg _ | assumption | exact Nat.le_of_ble_eq_true (Eq.refl true) | decide))))); (conv => whnf); apply Exists.intro; apply Exists.intro; apply And.intro; (focus (((repeat (first | ((conv => whnf); (with_reducible refine And.intro ?_ ?_); (focus (first | exact Eq.refl _ | exact trivial | exact Int.natCast_nonneg _ | assumption | exact Nat.le_of_ble_eq_true (Eq.refl true) | decide))))); (conv => whnf)) <;> (exact rfl))); apply And.intro; (focus exact rfl); (conv => whnf))
    ((repeat (first | ((conv => whnf); (with_reducible refine And.intro ?_ ?_); (focus (first | exact Eq.refl _ | exact trivial | exact Int.natCast_nonneg _ | assumption | exact Nat.le_of_ble_eq_true (Eq.refl true) | decide))))); (conv => whnf); apply Exists.intro; apply Exists.intro; apply And.intro; (focus (((repeat (first | ((conv => whnf); (with_reducible refine And.intro ?_ ?_); (focus (first | exact Eq.refl _ | exact trivial | exact Int.natCast_nonneg _ | assumption | exact Nat.le_of_ble_eq_true (Eq.refl true) | decide))))); (conv => whnf)) <;> (exact rfl))); apply And.intro; (focus exact rfl); (conv => whnf))
    ((repeat (first | ((conv => whnf); (with_reducible refine And.intro ?_ ?_); (focus (first | exact Eq.refl _ | exact trivial | exact Int.natCast_nonneg _ | assumption | exact Nat.le_of_ble_eq_true (Eq.refl true) | decide))))); (conv => whnf); apply Exists.intro; apply Exists.intro; apply And.intro; (focus (((repeat (first | ((conv => whnf); (with_reducible refine And.intro ?_ ?_); (focus (first | exact Eq.refl _ | exact trivial | exact Int.natCast_nonneg _ | assumption | exact Nat.le_of_ble_eq_true (Eq.refl true) | decide))))); (conv => whnf)) <;> (exact rfl))); apply And.intro; (focus exact rfl); (conv => whnf))
    ((repeat (first | ((conv => whnf); (with_reducible refine And.intro ?_ ?_); (focus (first | exact Eq.refl _ | exact trivial | exact Int.natCast_nonneg _ | assumption | exact Nat.le_of_ble_eq_true (Eq.refl true) | decide))))); (conv => whnf); apply Exists.intro; apply Exists.intro; apply And.intro; (focus (((repeat (first | ((conv => whnf); (with_reducible refine And.intro ?_ ?_); (focus (first | exact Eq.refl _ | exact trivial | exact Int.natCast_nonneg _ | assumption | exact Nat.le_of_ble_eq_true (Eq.refl true) | decide))))); (conv => whnf)) <;> (exact rfl))); apply And.intro; (focus exact rfl); (conv => whnf))
    ((repeat (first | ((conv => whnf); (with_reducible refine And.intro ?_ ?_); (focus (first | exact Eq.refl _ | exact trivial | exact Int.natCast_nonneg _ | assumption | exact Nat.le_of_ble_eq_true (Eq.refl true) | decide))))); (conv => whnf); apply Exists.intro; apply Exists.intro; apply And.intro; (focus (((repeat (first | ((conv => whnf); (with_reducible refine And.intro ?_ ?_); (focus (first | exact Eq.refl _ | exact trivial | exact Int.natCast_nonneg _ | assumption | exact Nat.le_of_ble_eq_true (Eq.refl true) | decide))))); (conv => whnf)) <;> (rw [map_get (TExc.cells_eq x28) hx28]) <;> ((repeat (first | ((conv => whnf); (with_reducible refine And.intro ?_ ?_); (focus (first | exact Eq.refl _ | exact trivial | exact Int.natCast_nonneg _ | assumption | exact Nat.le_of_ble_eq_true (Eq.refl true) | decide))))); (conv => whnf)) <;> (exact rfl))); apply And.intro; (focus exact rfl); (conv => whnf))
    ((repeat (first | ((conv => whnf); (with_reducible refine And.intro ?_ ?_); (focus (first | exact Eq.refl _ | exact trivial | exact Int.natCast_nonneg _ | assumption | exact Nat.le_of_ble_eq_true (Eq.refl true) | decide))))); (conv => whnf); apply Exists.intro; apply Exists.intro; apply And.intro; (focus (((repeat (first | ((conv => whnf); (with_reducible refine And.intro ?_ ?_); (focus (first | exact Eq.refl _ | exact trivial | exact Int.natCast_nonneg _ | assumption | exact Nat.le_of_ble_eq_true (Eq.refl true) | decide))))); (conv => whnf)) <;> (exact rfl))); apply And.intro; (focus exact rfl); (conv => whnf))
    (repeat (first | ((conv => whnf); (with_reducible refine And.intro ?_ ?_); (focus (first | exact Eq.refl _ | exact trivial | exact Int.natCast_nonneg _ | assumption | exact Nat.le_of_ble_eq_true (Eq.refl true) | decide))))); (conv => whnf)
    refine nd (by decide) _ _ _ ?_
    (conv => whnf)
    refine branch_hF hF (fun hc29 hF => ?_) (fun hc29 hF => ?_)
    · refine AWP.seq ?_
      refine nd (by decide) _ _ _ ?_
      (repeat (first | ((conv => whnf); (with_reducible refine And.intro ?_ ?_); (focus (first | exact Eq.refl _ | exact trivial | exact Int.natCast_nonneg _ | assumption | exact Nat.le_of_ble_eq_true (Eq.refl true) | decide))))); (conv => whnf)
      obtain rfl := some_eq hF
      refine nd (by decide) _ _ _ ?_
      (repeat (first | ((conv => whnf); (with_reducible refine And.intro ?_ ?_); (focus (first | exact Eq.refl _ | exact trivial | exact Int.natCast_nonneg _ | assumption | exact Nat.le_of_ble_eq_true (Eq.refl true) | decide))))); (conv => whnf)
      exact Exists.intro (rn []) (WS.mk (wt_cons (wd_c (WE.refl _)) wt_nil) wb_nil)
    · refine nd (by decide) _ _ _ ?_
      (conv => whnf)
      refine nd (by decide) _ _ _ ?_
      (repeat (first | ((conv => whnf); (with_reducible refine And.intro ?_ ?_); (focus (first | exact Eq.refl _ | exact trivial | exact Int.natCast_nonneg _ | assumption | exact Nat.le_of_ble_eq_true (Eq.refl true) | decide))))); (conv => whnf)
      refine AWL.weak (rn []) ?_ (ih_lazycref25_SameSet_l1 (i_5 + 1) a b xs26 _ hF (pre_i_5 ++ [x25]) (by rw [hs_i_5]; simp) (by rw [hk_i_5]; simp))
      exact (WS.mk (wt_cons wd_ptr (wt_cons wd_ptr (wt_cons (wd_c (we_i (wrap_succ hlen24 hl27))) wt_nil))) (wb_cons rfl (wc_c (WE.refl _) (wc_c (WE.refl _) wc_nil)) (wb_cons rfl (wc_c (WE.refl _) (wc_c (WE.refl _) wc_nil)) wb_nil)))
  · subst hp27
    refine nd (by decide) _ _ _ ?_
    (conv => whnf)
    refine AWP.seq ?_
    refine nd (by decide) _ _ _ ?_
    (repeat (first | ((conv => whnf); (with_reducible refine And.intro ?_ ?_); (focus (first | exact Eq.refl _ | exact trivial | exact Int.natCast_nonneg _ | assumption | exact Nat.le_of_ble_eq_true (Eq.refl true) | decide))))); (conv => whnf)
    obtain rfl := some_eq hF
    refine nd (by decide) _ _ _ ?_
    (repeat (first | ((conv => whnf); (with_reducible refine And.intro ?_ ?_); (focus (first | exact Eq.refl _ | exact trivial | exact Int.natCast_nonneg _ | assumption | exact Nat.le_of_ble_eq_true (Eq.refl true) | decide))))); (conv => whnf)
    exact Exists.intro (rn []) (WS.mk (wt_cons (wd_c (WE.refl _)) wt_nil) wb_nil)
end Go.Proofs.YtafniolcakiljaaDoor

set_option linter.unusedVariables false
set_option linter.unusedSimpArgs false
set_option maxRecDepth 100000
set_option maxHeartbeats 4000000
namespace Go.Proofs.YtafniolcakiljaaDoor
open Go Go.Am
def lazycref25_SameSet (a : TExcSet) (b : TExcSet) : Option (Bool) :=
  if ((!(a.fAll == b.fAll)) || (((a.fList.length : Nat) : Int) != ((b.fList.length : Nat) : Int))) = true then
  some false
  else
  lazycref25_SameSet_l1 0 a b a.fList
def lazycref25_SameSet.M (a : TExcSet) (b : TExcSet) (r : Bool) : Prop :=
  CallsX Tryd.prog 26 [.agg [.v (.bool a.fAll), .sl (a.fList.map TExc.cells)], .agg [.v (.bool b.fAll), .sl (b.fList.map TExc.cells)]] [] (fun d b => d = .c none (.v (.bool r)) ∧ b = [])
theorem lazycref25_SameSet_ok (a : TExcSet) (b : TExcSet) (r : Bool) (hF : lazycref25_SameSet a b = some r) : lazycref25_SameSet.M a b r := by
  unfold lazycref25_SameSet at hF
  unfold lazycref25_SameSet.M
  refine enter tabOk Tryd.func26 rfl (by decide) (Nat.le_of_ble_eq_true rfl) rfl rfl rfl ?_
  refine AWP.seq ?_
  refine nd (by decide) _ _ _ ?_
  (repeat (first | ((conv => whnf); (with_reducible refine And.intro ?_ ?_); (focus (first | exact Eq.refl _ | exact trivial | exact Int.natCast_nonneg _ | assumption | exact Nat.le_of_ble_eq_true (Eq.refl true) | decide))))); (conv => whnf)
  refine AWP.seq ?_
  refine AWP.seq ?_
  refine AWP.cutN (fun T => ∃ r, WS r T ⟨[(2, .ptr 2 0), (3, .ptr 3 0), (19, .c none (.v (.bool ((!(a.fAll == b.fAll)) || (((a.fList.length : Nat) : Int) != ((b.fList.length : Nat) : Int))))))], [(2, [(none, .v (.bool a.fAll)), (none, .sl (a.fList.map TExc.cells))]), (3, [(none, .v (.bool b.fAll)), (none, .sl (b.fList.map TExc.cells))])]⟩) ?_ (fun T hw => ?_)
  · refine nd (by decide) _ _ _ ?_
    (repeat (first | ((conv => whnf); (with_reducible refine And.intro ?_ ?_); (focus (first | exact Eq.refl _ | exact trivial | exact Int.natCast_nonneg _ | assumption | exact Nat.le_of_ble_eq_true (Eq.refl true) | decide))))); (conv => whnf)
    refine branchG_intro false (fun hc6 => ?_) (fun hc6 => ?_)
    · (conv => whnf)
      (repeat (first | ((conv => whnf); (with_reducible refine And.intro ?_ ?_); (focus (first | exact Eq.refl _ | exact trivial | exact Int.natCast_nonneg _ | assumption | exact Nat.le_of_ble_eq_true (Eq.refl true) | decide))))); (conv => whnf)
      exact Exists.intro (rn []) (WS.mk (wt_cons wd_ptr (wt_cons wd_ptr (wt_cons (wd_c (we_b (by first | exact Eq.refl _ | simp only [hc6, Bool.and_true, Bool.true_and, Bool.and_false, Bool.false_and, Bool.or_true, Bool.true_or, Bool.or_false, Bool.false_or, Bool.not_true, Bool.not_false, cond_true, cond_false, List.length_map]))) wt_nil))) (wb_cons rfl (wc_c (WE.refl _) (wc_c (WE.refl _) wc_nil)) (wb_cons rfl (wc_c (WE.refl _) (wc_c (WE.refl _) wc_nil)) wb_nil)))
    · (conv => whnf)
      (repeat (first | ((conv => whnf); (with_reducible refine And.intro ?_ ?_); (focus (first | exact Eq.refl _ | exact trivial | exact Int.natCast_nonneg _ | assumption | exact Nat.le_of_ble_eq_true (Eq.refl true) | decide))))); (conv => whnf)
      intro hlen4
      (try rw [List.length_map] at hlen4)
      (try rw [List.length_map])
      (repeat (first | ((conv => whnf); (with_reducible refine And.intro ?_ ?_); (focus (first | exact Eq.refl _ | exact trivial | exact Int.natCast_nonneg _ | assumption | exact Nat.le_of_ble_eq_true (Eq.refl true) | decide))))); (conv => whnf)
      intro hlen5
      (try rw [List.length_map] at hlen5)
      (try rw [List.length_map])
      (repeat (first | ((conv => whnf); (with_reducible refine And.intro ?_ ?_); (focus (first | exact Eq.refl _ | exact trivial | exact Int.natCast_nonneg _ | assumption | exact Nat.le_of_ble_eq_true (Eq.refl true) | decide))))); (conv => whnf)
      exact Exists.intro (rn []) (WS.mk (wt_cons wd_ptr (wt_cons wd_ptr (wt_cons (wd_c (we_b (by first | exact Eq.refl _ | simp only [hc6, Bool.and_true, Bool.true_and, Bool.and_false, Bool.false_and, Bool.or_true, Bool.true_or, Bool.or_false, Bool.false_or, Bool.not_true, Bool.not_false, cond_true, cond_false, List.length_map]))) wt_nil))) (wb_cons rfl (wc_c (WE.refl _) (wc_c (WE.refl _) wc_nil)) (wb_cons rfl (wc_c (WE.refl _) (wc_c (WE.refl _) wc_nil)) wb_nil)))
  obtain ⟨r0, hw⟩ := hw
  (conv => whnf)
  refine AWP.weak r0 hw ?_
  refine nd (by decide) _ _ _ ?_
  (conv => whnf)
  refine branch_hF hF (fun hc7 hF => ?_) (fun hc7 hF => ?_)
  · refine AWP.seq ?_
    refine nd (by decide) _ _ _ ?_
    (repeat (first | ((conv => whnf); (with_reducible refine And.intro ?_ ?_); (focus (first | exact Eq.refl _ | exact trivial | exact Int.natCast_nonneg _ | assumption | exact Nat.le_of_ble_eq_true (Eq.refl true) | decide))))); (conv => whnf)
    obtain rfl := some_eq hF
    refine nd (by decide) _ _ _ ?_
    (repeat (first | ((conv => whnf); (with_reducible refine And.intro ?_ ?_); (focus (first | exact Eq.refl _ | exact trivial | exact Int.natCast_nonneg _ | assumption | exact Nat.le_of_ble_eq_true (Eq.refl true) | decide))))); (conv => whnf)
    exact Exists.intro (rn []) (WS.mk (wt_cons (wd_c (WE.refl _)) wt_nil) wb_nil)
  · refine nd (by decide) _ _ _ ?_
    (conv => whnf)
    refine AWP.seq ?_
    refine AWP.seq ?_
    refine nd (by decide) _ _ _ ?_
    (repeat (first | ((conv => whnf); (with_reducible refine And.intro ?_ ?_); (focus (first | exact Eq.refl _ | exact trivial | exact Int.natCast_nonneg _ | assumption | exact Nat.le_of_ble_eq_true (Eq.refl true) | decide))))); (conv => whnf)
    refine AWP.block ?_
    refine AWP.loop ?_
    refine AWL.weak (rn []) ?_ (lazycref25_SameSet_l1_ok 0 a b a.fList _ hF ([]) rfl rfl)
    exact (WS.mk (wt_cons wd_ptr (wt_cons wd_ptr (wt_cons (wd_c (WE.refl _)) wt_nil))) (wb_cons rfl (wc_c (WE.refl _) (wc_c (WE.refl _) wc_nil)) (wb_cons rfl (wc_c (WE.refl _) (wc_c (WE.refl _) wc_nil)) wb_nil)))
end Go.Proofs.YtafniolcakiljaaDoor

set_option linter.unusedVariables false
set_option linter.unusedSimpArgs false
set_option maxRecDepth 100000
set_option maxHeartbeats 4000000
namespace Go.Proofs.YtafniolcakiljaaDoor
open Go Go.Am
mutual
def lazycref25_Same (a : TValue) (b : TValue) : Option (Bool) :=
  (if (((a.fOp != b.fOp) || (!(a.fName.toList == b.fName.toList))) || (a.fN != b.fN)) = true then some true else lazycref25_SameSet a.fSet b.fSet >>= fun r6 =>
  some (!r6)) >>= fun c7 =>
  if (c7 || (((a.fKids.length : Nat) : Int) != ((b.fKids.length : Nat) : Int))) = true then
  some false
  else
  lazycref25_Same_l1 0 a b a.fKids
  partial_fixpoint
def lazycref25_Same_l1 (i_5 : Nat) (a : TValue) (b : TValue) (i_5_s_ : (List TValue)) : Option (Bool) :=
  (match i_5_s_ with
  | x34 :: xs35 =>
  (b.fKids[i_5]?) >>= fun x37 =>
  lazycref25_Same x34 x37 >>= fun r38 =>
  if (!r38) = true then
  some false
  else
  lazycref25_Same_l1 (i_5 + 1) a b xs35
  | [] =>
  some true)
  partial_fixpoint
end
def lazycref25_Same.M (a : TValue) (b : TValue) (r : Bool) : Prop :=
  CallsX Tryd.prog 18 [.agg [.v (.int .i64 a.fOp), .v (.string a.fName), .v (.int .i64 a.fN), .sl (a.fKids.map TValue.cells), .v (.bool a.fSet.fAll), .sl (a.fSet.fList.map TExc.cells)], .agg [.v (.int .i64 b.fOp), .v (.string b.fName), .v (.int .i64 b.fN), .sl (b.fKids.map TValue.cells), .v (.bool b.fSet.fAll), .sl (b.fSet.fList.map TExc.cells)]] [] (fun d b => d = .c none (.v (.bool r)) ∧ b = [])
def lazycref25_Same_l1.M (i_5 : Nat) (a : TValue) (b : TValue) (i_5_s_ : (List TValue)) (r : Bool) : Prop :=
  ∀ pre_i_5 : List TValue, a.fKids = pre_i_5 ++ i_5_s_ → i_5 = pre_i_5.length → AWL Tryd.prog 61 (Code.sub (bodyOf Tryd.f18) [1, 1, 0, 1, 0, 0]) (Code.cont Tryd.prog 61 (bodyOf Tryd.f18) [1, 1, 0, 1, 0] (endK tab Tryd.f18.results [] (WRes (.c none (.v (.bool r))) []))) ⟨[(2, .ptr 2 0), (3, .ptr 3 0), (5, .c none (.v (.int .i64 ((i_5 : Nat) : Int))))], [(2, [(none, .v (.int .i64 a.fOp)), (none, .v (.string a.fName)), (none, .v (.int .i64 a.fN)), (none, .sl (a.fKids.map TValue.cells)), (none, .v (.bool a.fSet.fAll)), (none, .sl (a.fSet.fList.map TExc.cells))]), (3, [(none, .v (.int .i64 b.fOp)), (none, .v (.string b.fName)), (none, .v (.int .i64 b.fN)), (none, .sl (b.fKids.map TValue.cells)), (none, .v (.bool b.fSet.fAll)), (none, .sl (b.fSet.fList.map TExc.cells))])]⟩
theorem lazycref25_Same_all : (∀ (a : TValue) (b : TValue), ∀ r, lazycref25_Same a b = some r → lazycref25_Same.M a b r) ∧ (∀ (i_5 : Nat) (a : TValue) (b : TValue) (i_5_s_ : (List TValue)), ∀ r, lazycref25_Same_l1 i_5 a b i_5_s_ = some r → lazycref25_Same_l1.M i_5 a b i_5_s_ r) := by
  refine lazycref25_Same.mutual_partial_correctness lazycref25_Same.M lazycref25_Same_l1.M ?_ ?_
  · intro lazycref25_Same_l1' ih_lazycref25_Same_l1 a b r hF
    unfold lazycref25_Same.M
    refine enter tabOk Tryd.func18 rfl (by decide) (Nat.le_of_ble_eq_true rfl) rfl rfl rfl ?_
    refine AWP.seq ?_
    refine nd (by decide) _ _ _ ?_
    (repeat (first | ((conv => whnf); (with_reducible refine And.intro ?_ ?_); (focus (first | exact Eq.refl _ | exact trivial | exact Int.natCast_nonneg _ | assumption | exact Nat.le_of_ble_eq_true (Eq.refl true) | decide))))); (conv => whnf)
    refine AWP.seq ?_
    refine AWP.seq ?_
    obtain ⟨c7, hc7, hF⟩ := bind_some hF
    refine AWP.cutN (fun T => ∃ r, WS r T ⟨[(2, .ptr 2 0), (3, .ptr 3 0), (41, .c none (.v (.bool (c7 || (((a.fKids.length : Nat) : Int) != ((b.fKids.length : Nat) : Int))))))], [(2, [(none, .v (.int .i64 a.fOp)), (none, .v (.string a.fName)), (none, .v (.int .i64 a.fN)), (none, .sl (a.fKids.map TValue.cells)), (none, .v (.bool a.fSet.fAll)), (none, .sl (a.fSet.fList.map TExc.cells))]), (3, [(none, .v (.int .i64 b.fOp)), (none, .v (.string b.fName)), (none, .v (.int .i64 b.fN)), (none, .sl (b.fKids.map TValue.cells)), (none, .v (.bool b.fSet.fAll)), (none, .sl (b.fSet.fList.map TExc.cells))])]⟩) ?_ (fun T hw => ?_)
    · refine nd (by decide) _ _ _ ?_
      (repeat (first | ((conv => whnf); (with_reducible refine And.intro ?_ ?_); (focus (first | exact Eq.refl _ | exact trivial | exact Int.natCast_nonneg _ | assumption | exact Nat.le_of_ble_eq_true (Eq.refl true) | decide))))); (conv => whnf)
      refine branchG_intro false (fun hc10 => ?_) (fun hc10 => ?_)
      · (conv => whnf)
        have hc7 := if_then (by first | assumption | exact Eq.refl _ | simp only [hc10, Bool.and_true, Bool.true_and, Bool.and_false, Bool.false_and, Bool.or_true, Bool.true_or, Bool.or_false, Bool.false_or, Bool.not_true, Bool.not_false, cond_true, cond_false, List.length_map]) hc7
        obtain rfl := some_eq hc7
        (repeat (first | ((conv => whnf); (with_reducible refine And.intro ?_ ?_); (focus (first | exact Eq.refl _ | exact trivial | exact Int.natCast_nonneg _ | assumption | exact Nat.le_of_ble_eq_true (Eq.refl true) | decide))))); (conv => whnf)
        exact Exists.intro (rn []) (WS.mk (wt_cons wd_ptr (wt_cons wd_ptr (wt_cons (wd_c (we_b (by first | exact Eq.refl _ | simp only [hc10, Bool.and_true, Bool.true_and, Bool.and_false, Bool.false_and, Bool.or_true, Bool.true_or, Bool.or_false, Bool.false_or, Bool.not_true, Bool.not_false, cond_true, cond_false, List.length_map]))) wt_nil))) (wb_cons rfl (wc_c (WE.refl _) (wc_c (WE.refl _) (wc_c (WE.refl _) (wc_c (WE.refl _) (wc_c (WE.refl _) (wc_c (WE.refl _) wc_nil)))))) (wb_cons rfl (wc_c (WE.refl _) (wc_c (WE.refl _) (wc_c (WE.refl _) (wc_c (WE.refl _) (wc_c (WE.refl _) (wc_c (WE.refl _) wc_nil)))))) wb_nil)))
      · (conv => whnf)
        (repeat (first | ((conv => whnf); (with_reducible refine And.intro ?_ ?_); (focus (first | exact Eq.refl _ | exact trivial | exact Int.natCast_nonneg _ | assumption | exact Nat.le_of_ble_eq_true (Eq.refl true) | decide))))); (conv => whnf)
        refine branchG_intro false (fun hc11 => ?_) (fun hc11 => ?_)
        · (conv => whnf)
          have hc7 := if_then (by first | assumption | exact Eq.refl _ | simp only [hc10, hc11, Bool.and_true, Bool.true_and, Bool.and_false, Bool.false_and, Bool.or_true, Bool.true_or, Bool.or_false, Bool.false_or, Bool.not_true, Bool.not_false, cond_true, cond_false, List.length_map]) hc7
          obtain rfl := some_eq hc7
          (repeat (first | ((conv => whnf); (with_reducible refine And.intro ?_ ?_); (focus (first | exact Eq.refl _ | exact trivial | exact Int.natCast_nonneg _ | assumption | exact Nat.le_of_ble_eq_true (Eq.refl true) | decide))))); (conv => whnf)
          exact Exists.intro (rn []) (WS.mk (wt_cons wd_ptr (wt_cons wd_ptr (wt_cons (wd_c (we_b (by first | exact Eq.refl _ | simp only [hc10, hc11, Bool.and_true, Bool.true_and, Bool.and_false, Bool.false_and, Bool.or_true, Bool.true_or, Bool.or_false, Bool.false_or, Bool.not_true, Bool.not_false, cond_true, cond_false, List.length_map]))) wt_nil))) (wb_cons rfl (wc_c (WE.refl _) (wc_c (WE.refl _) (wc_c (WE.refl _) (wc_c (WE.refl _) (wc_c (WE.refl _) (wc_c (WE.refl _) wc_nil)))))) (wb_cons rfl (wc_c (WE.refl _) (wc_c (WE.refl _) (wc_c (WE.refl _) (wc_c (WE.refl _) (wc_c (WE.refl _) (wc_c (WE.refl _) wc_nil)))))) wb_nil)))
        · (conv => whnf)
          (repeat (first | ((conv => whnf); (with_reducible refine And.intro ?_ ?_); (focus (first | exact Eq.refl _ | exact trivial | exact Int.natCast_nonneg _ | assumption | exact Nat.le_of_ble_eq_true (Eq.refl true) | decide))))); (conv => whnf)
          refine branchG_intro false (fun hc12 => ?_) (fun hc12 => ?_)
          · have hc7 := if_then (by first | assumption | exact Eq.refl _ | simp only [hc10, hc11, hc12, Bool.and_true, Bool.true_and, Bool.and_false, Bool.false_and, Bool.or_true, Bool.true_or, Bool.or_false, Bool.false_or, Bool.not_true, Bool.not_false, cond_true, cond_false, List.length_map]) hc7
            (conv => whnf)
            obtain rfl := some_eq hc7
            (repeat (first | ((conv => whnf); (with_reducible refine And.intro ?_ ?_); (focus (first | exact Eq.refl _ | exact trivial | exact Int.natCast_nonneg _ | assumption | exact Nat.le_of_ble_eq_true (Eq.refl true) | decide))))); (conv => whnf)
            exact Exists.intro (rn []) (WS.mk (wt_cons wd_ptr (wt_cons wd_ptr (wt_cons (wd_c (we_b (by first | exact Eq.refl _ | simp only [hc10, hc11, hc12, Bool.and_true, Bool.true_and, Bool.and_false, Bool.false_and, Bool.or_true, Bool.true_or, Bool.or_false, Bool.false_or, Bool.not_true, Bool.not_false, cond_true, cond_false, List.length_map]))) wt_nil))) (wb_cons rfl (wc_c (WE.refl _) (wc_c (WE.refl _) (wc_c (WE.refl _) (wc_c (WE.refl _) (wc_c (WE.refl _) (wc_c (WE.refl _) wc_nil)))))) (wb_cons rfl (wc_c (WE.refl _) (wc_c (WE.refl _) (wc_c (WE.refl _) (wc_c (WE.refl _) (wc_c (WE.refl _) (wc_c (WE.refl _) wc_nil)))))) wb_nil)))
          · have hc7 := if_else (by first | assumption | exact Eq.refl _ | simp only [hc10, hc11, hc12, Bool.and_true, Bool.true_and, Bool.and_false, Bool.false_and, Bool.or_true, Bool.true_or, Bool.or_false, Bool.false_or, Bool.not_true, Bool.not_false, cond_true, cond_false, List.length_map]) hc7
            obtain ⟨r6, hr6, hc7⟩ := bind_some hc7
            (conv => whnf)
            (repeat (first | ((conv => whnf); (with_reducible refine And.intro ?_ ?_); (focus (first | exact Eq.refl _ | exact trivial | exact Int.natCast_nonneg _ | assumption | exact Nat.le_of_ble_eq_true (Eq.refl true) | decide))))); (conv => whnf)
            refine Exists.intro [] ?_
            (repeat (first | ((conv => whnf); (with_reducible refine And.intro ?_ ?_); (focus (first | exact Eq.refl _ | exact trivial | exact Int.natCast_nonneg _ | assumption | exact Nat.le_of_ble_eq_true (Eq.refl true) | decide))))); (conv => whnf)
            refine CallsX.mono (CallsX.weak (rn []) (lazycref25_SameSet_ok a.fSet b.fSet _ hr6) rfl (WS.mk (wt_cons (wd_agg (wl_cons (WE.refl _) (wl_cons (WE.refl _) wl_nil))) (wt_cons (wd_agg (wl_cons (WE.refl _) (wl_cons (WE.refl _) wl_nil))) wt_nil)) wb_nil)) ?_
            rintro d b ⟨rfl, rfl⟩
            (repeat (first | ((conv => whnf); (with_reducible refine And.intro ?_ ?_); (focus (first | exact Eq.refl _ | exact trivial | exact Int.natCast_nonneg _ | assumption | exact Nat.le_of_ble_eq_true (Eq.refl true) | decide))))); (conv => whnf)
            obtain rfl := some_eq hc7
            (repeat (first | ((conv => whnf); (with_reducible refine And.intro ?_ ?_); (focus (first | exact Eq.refl _ | exact trivial | exact Int.natCast_nonneg _ | assumption | exact Nat.le_of_ble_eq_true (Eq.refl true) | decide))))); (conv => whnf)
            refine branchG_intro false (fun hc13 => ?_) (fun hc13 => ?_)
            · (conv => whnf)
              (repeat (first | ((conv => whnf); (with_reducible refine And.intro ?_ ?_); (focus (first | exact Eq.refl _ | exact trivial | exact Int.natCast_nonneg _ | assumption | exact Nat.le_of_ble_eq_true (Eq.refl true) | decide))))); (conv => whnf)
              exact Exists.intro (rn []) (WS.mk (wt_cons wd_ptr (wt_cons wd_ptr (wt_cons (wd_c (we_b (by first | exact Eq.refl _ | simp only [hc10, hc11, hc12, hc13, Bool.and_true, Bool.true_and, Bool.and_false, Bool.false_and, Bool.or_true, Bool.true_or, Bool.or_false, Bool.false_or, Bool.not_true, Bool.not_false, cond_true, cond_false, List.length_map]))) wt_nil))) (wb_cons rfl (wc_c (WE.refl _) (wc_c (WE.refl _) (wc_c (WE.refl _) (wc_c (WE.refl _) (wc_c (WE.refl _) (wc_c (WE.refl _) wc_nil)))))) (wb_cons rfl (wc_c (WE.refl _) (wc_c (WE.refl _) (wc_c (WE.refl _) (wc_c (WE.refl _) (wc_c (WE.refl _) (wc_c (WE.refl _) wc_nil)))))) wb_nil)))
            · (conv => whnf)
              (repeat (first | ((conv => whnf); (with_reducible refine And.intro ?_ ?_); (focus (first | exact Eq.refl _ | exact trivial | exact Int.natCast_nonneg _ | assumption | exact Nat.le_of_ble_eq_true (Eq.refl true) | decide))))); (conv => whnf)
              intro hlen8
              (try rw [List.length_map] at hlen8)
              (try rw [List.length_map])
              (repeat (first | ((conv => whnf); (with_reducible refine And.intro ?_ ?_); (focus (first | exact Eq.refl _ | exact trivial | exact Int.natCast_nonneg _ | assumption | exact Nat.le_of_ble_eq_true (Eq.refl true) | decide))))); (conv => whnf)
              intro hlen9
              (try rw [List.length_map] at hlen9)
              (try rw [List.length_map])
              (repeat (first | ((conv => whnf); (with_reducible refine And.intro ?_ ?_); (focus (first | exact Eq.refl _ | exact trivial | exact Int.natCast_nonneg _ | assumption | exact Nat.le_of_ble_eq_true (Eq.refl true) | decide))))); (conv => whnf)
              exact Exists.intro (rn []) (WS.mk (wt_cons wd_ptr (wt_cons wd_ptr (wt_cons (wd_c (we_b (by first | exact Eq.refl _ | simp only [hc10, hc11, hc12, hc13, Bool.and_true, Bool.true_and, Bool.and_false, Bool.false_and, Bool.or_true, Bool.true_or, Bool.or_false, Bool.false_or, Bool.not_true, Bool.not_false, cond_true, cond_false, List.length_map]))) wt_nil))) (wb_cons rfl (wc_c (WE.refl _) (wc_c (WE.refl _) (wc_c (WE.refl _) (wc_c (WE.refl _) (wc_c (WE.refl _) (wc_c (WE.refl _) wc_nil)))))) (wb_cons rfl (wc_c (WE.refl _) (wc_c (WE.refl _) (wc_c (WE.refl _) (wc_c (WE.refl _) (wc_c (WE.refl _) (wc_c (WE.refl _) wc_nil)))))) wb_nil)))
    obtain ⟨r0, hw⟩ := hw
    (conv => whnf)
    refine AWP.weak r0 hw ?_
    refine nd (by decide) _ _ _ ?_
    (conv => whnf)
    refine branch_hF hF (fun hc14 hF => ?_) (fun hc14 hF => ?_)
    · refine AWP.seq ?_
      refine nd (by decide) _ _ _ ?_
      (repeat (first | ((conv => whnf); (with_reducible refine And.intro ?_ ?_); (focus (first | exact Eq.refl _ | exact trivial | exact Int.natCast_nonneg _ | assumption | exact Nat.le_of_ble_eq_true (Eq.refl true) | decide))))); (conv => whnf)
      obtain rfl := some_eq hF
      refine nd (by decide) _ _ _ ?_
      (repeat (first | ((conv => whnf); (with_reducible refine And.intro ?_ ?_); (focus (first | exact Eq.refl _ | exact trivial | exact Int.natCast_nonneg _ | assumption | exact Nat.le_of_ble_eq_true (Eq.refl true) | decide))))); (conv => whnf)
      exact Exists.intro (rn []) (WS.mk (wt_cons (wd_c (WE.refl _)) wt_nil) wb_nil)
    · refine nd (by decide) _ _ _ ?_
      (conv => whnf)
      refine AWP.seq ?_
      refine AWP.seq ?_
      refine nd (by decide) _ _ _ ?_
      (repeat (first | ((conv => whnf); (with_reducible refine And.intro ?_ ?_); (focus (first | exact Eq.refl _ | exact trivial | exact Int.natCast_nonneg _ | assumption | exact Nat.le_of_ble_eq_true (Eq.refl true) | decide))))); (conv => whnf)
      refine AWP.block ?_
      refine AWP.loop ?_
      refine AWL.weak (rn []) ?_ (ih_lazycref25_Same_l1 0 a b a.fKids _ hF ([]) rfl rfl)
      exact (WS.mk (wt_cons wd_ptr (wt_cons wd_ptr (wt_cons (wd_c (WE.refl _)) wt_nil))) (wb_cons rfl (wc_c (WE.refl _) (wc_c (WE.refl _) (wc_c (WE.refl _) (wc_c (WE.refl _) (wc_c (WE.refl _) (wc_c (WE.refl _) wc_nil)))))) (wb_cons rfl (wc_c (WE.refl _) (wc_c (WE.refl _) (wc_c (WE.refl _) (wc_c (WE.refl _) (wc_c (WE.refl _) (wc_c (WE.refl _) wc_nil)))))) wb_nil)))
  · intro lazycref25_Same' lazycref25_Same_l1' ih_lazycref25_Same ih_lazycref25_Same_l1 i_5 a b i_5_s_ r hF
    unfold lazycref25_Same_l1.M
    intro pre_i_5 hs_i_5 hk_i_5
    refine AWL.step ?_
    refine AWP.seq ?_
    refine AWP.seq ?_
    refine nd (by decide) _ _ _ ?_
    (repeat (first | ((conv => whnf); (with_reducible refine And.intro ?_ ?_); (focus (first | exact Eq.refl _ | exact trivial | exact Int.natCast_nonneg _ | assumption | exact Nat.le_of_ble_eq_true (Eq.refl true) | decide))))); (conv => whnf)
    intro hlen33
    (try rw [List.length_map] at hlen33)
    (try rw [List.length_map])
    (repeat (first | ((conv => whnf); (with_reducible refine And.intro ?_ ?_); (focus (first | exact Eq.refl _ | exact trivial | exact Int.natCast_nonneg _ | assumption | exact Nat.le_of_ble_eq_true (Eq.refl true) | decide))))); (conv => whnf)
    refine nd (by decide) _ _ _ ?_
    (conv => whnf)
    refine branch_list hs_i_5 hk_i_5 (fun x34 xs35 hp36 hx36 hl36 => ?_) (fun hp36 => ?_)
    · subst hp36
      refine nd (by decide) _ _ _ ?_
      (conv => whnf)
      refine AWP.seq ?_
      refine AWP.block ?_
      refine AWP.seq ?_
      obtain ⟨x37, hx37, hF⟩ := bind_some hF
      obtain ⟨r38, hr38, hF⟩ := bind_some hF
      refine nd (by decide) _ _ _ ?_
      refine Exists.intro 10 (Exists.intro [[], [], [], [], [], [], [], [], [], []] (Exists.intro [([49, 50, 51, 52, 53, 54, 55, 56, 57, 58], [], []), ([50, 51, 52, 53, 54, 55, 56, 57, 58], [], []), ([49, 50, 51, 52, 53, 54, 55, 56, 57, 58], [], []), ([52, 53, 54, 55, 56, 57, 58], [], []), ([53, 54, 55, 56, 57, 58], [], []), ([49, 50, 51, 52, 53, 54, 55, 56, 57, 58], [], []), ([49, 50, 51, 52, 53, 55, 56, 57, 58], [], []), ([49, 50, 51, 52, 53, 54, 55, 56, 57, 58], [], []), ([49, 50, 51, 52, 53, 57, 58], [], []), ([49, 50, 51, 52, 53, 58], [], [])] (Exists.intro [49, 50, 51, 52, 53, 54, 55, 56, 57, 58] (And.intro (by decide +kernel) ?_))))
      ((repeat (first | ((conv => whnf); (with_reducible refine And.intro ?_ ?_); (focus (first | exact Eq.refl _ | exact trivial | exact Int.natCast_nonneg _ | assumption | exact Nat.le_of_ble_eq_true (Eq.refl true) | decide))))); (conv => whnf); apply Exists.intro; apply Exists.intro; apply And.intro; (focus (((repeat (first | ((conv => whnf); (with_reducible refine And.intro ?_ ?_); (focus (first | exact Eq.refl _ | exact trivial | exact Int.natCast_nonneg _ | assumption | exact Nat.le_of_ble_eq_true (Eq.refl true) | decide))))); (conv => whnf)) <;> (exact rfl))); apply And.intro; (focus exact rfl); (conv => whnf))
      ((repeat (first | ((conv => whnf); (with_reducible refine And.intro ?_ ?_); (focus (first | exact Eq.refl _ | exact trivial | exact Int.natCast_nonneg _ | assumption | exact Nat.le_of_ble_eq_true (Eq.refl true) | decide))))); (conv => whnf); apply Exists.intro; apply Exists.intro; apply And.intro; (focus (((repeat (first | ((conv => whnf); (with_reducible refine And.intro ?_ ?_); (focus (first | exact Eq.refl _ | exact trivial | exact Int.natCast_nonneg _ | assumption | exact Nat.le_of_ble_eq_true (Eq.refl true) | decide))))); (conv => whnf)) <;> (exact rfl))); apply And.intro; (focus exact rfl); (conv => whnf))
      ((repeat (first | ((conv => whnf); (with_reducible refine And.intro ?_ ?_); (focus (first | exact Eq.refl _ | exact trivial | exact Int.natCast_nonneg _ | assumption | exact Nat.le_of_ble_eq_true (Eq.refl true) | decide))))); (conv => whnf); apply Exists.intro; apply Exists.intro; apply And.intro; (focus (((repeat (first | ((conv => whnf); (with_reducible refine And.intro ?_ ?_); (focus (first | exact Eq.refl _ | exact trivial | exact Int.natCast_nonneg _ | assumption | exact Nat.le_of_ble_eq_true (Eq.refl true) | decide))))); (conv => whnf)) <;> (exact rfl))); apply And.intro; (focus exact rfl); (conv => whnf))
      ((repeat (first | ((conv => whnf); (with_reducible refine And.intro ?_ ?_); (focus (first | exact Eq.refl _ | exact trivial | exact Int.natCast_nonneg _ | assumption | exact Nat.le_of_ble_eq_true (Eq.refl true) | decide))))); (conv => whnf); apply Exists.intro; apply Exists.intro; apply And.intro; (focus (((repeat (first | ((conv => whnf); (with_reducible refine And.intro ?_ ?_); (focus (first | exact Eq.refl _ | exact trivial | exact Int.natCast_nonneg _ | assumption | exact Nat.le_of_ble_eq_true (Eq.refl true) | decide))))); (conv => whnf)) <;> (rw [map_get (TValue.cells_eq x34) hx36]) <;> ((repeat (first | ((conv => whnf); (with_reducible refine And.intro ?_ ?_); (focus (first | exact Eq.refl _ | exact trivial | exact Int.natCast_nonneg _ | assumption | exact Nat.le_of_ble_eq_true (Eq.refl true) | decide))))); (conv => whnf)) <;> (exact rfl))); apply And.intro; (focus exact rfl); (conv => whnf))
      ((repeat (first | ((conv => whnf); (with_reducible refine And.intro ?_ ?_); (focus (first | exact Eq.refl _ | exact trivial | exact Int.natCast_nonneg _ | assumption | exact Nat.le_of_ble_eq_true (Eq.refl true) | decide))))); (conv => whnf); apply Exists.intro; apply Exists.intro; apply And.intro; (focus (((repeat (first | ((conv => whnf); (with_reducible refine And.intro ?_ ?_); (focus (first | exact Eq.refl _ | exact trivial | exact Int.natCast_nonneg _ | assumption | exact Nat.le_of_ble_eq_true (Eq.refl true) | decide))))); (conv => whnf)) <;> (exact rfl))); apply And.intro; (focus exact rfl); (conv => whnf))
      ((repeat (first | ((conv => whnf); (with_reducible refine And.intro ?_ ?_); (focus (first | exact Eq.refl _ | exact trivial | exact Int.natCast_nonneg _ | assumption | exact Nat.le_of_ble_eq_true (Eq.refl true) | decide))))); (conv => whnf); apply Exists.intro; apply Exists.intro; apply And.intro; (focus (((repeat (first | ((conv => whnf); (with_reducible refine And.intro ?_ ?_); (focus (first | exact Eq.refl _ | exact trivial | exact Int.natCast_nonneg _ | assumption | exact Nat.le_of_ble_eq_true (Eq.refl true) | decide))))); (conv => whnf)) <;> (exact rfl))); apply And.intro; (focus exact rfl); (conv => whnf))
      ((repeat (first | ((conv => whnf); (with_reducible refine And.intro ?_ ?_); (focus (first | exact Eq.refl _ | exact trivial | exact Int.natCast_nonneg _ | assumption | exact Nat.le_of_ble_eq_true (Eq.refl true) | decide))))); (conv => whnf); apply Exists.intro; apply Exists.intro; apply And.intro; (focus (((repeat (first | ((conv => whnf); (with_reducible refine And.intro ?_ ?_); (focus (first | exact Eq.refl _ | exact trivial | exact Int.natCast_nonneg _ | assumption | exact Nat.le_of_ble_eq_true (Eq.refl true) | decide))))); (conv => whnf)) <;> (exact rfl))); apply And.intro; (focus exact rfl); (conv => whnf))
      ((repeat (first | ((conv => whnf); (with_reducible refine And.intro ?_ ?_); (focus (first | exact Eq.refl _ | exact trivial | exact Int.natCast_nonneg _ | assumption | exact Nat.le_of_ble_eq_true (Eq.refl true) | decide))))); (conv => whnf); apply Exists.intro; apply Exists.intro; apply And.intro; (focus (((repeat (first | ((conv => whnf); (with_reducible refine And.intro ?_ ?_); (focus (first | exact Eq.refl _ | exact trivial | exact Int.natCast_nonneg _ | assumption | exact Nat.le_of_ble_eq_true (Eq.refl true) | decide))))); (conv => whnf)) <;> (exact rfl))); apply And.intro; (focus exact rfl); (conv => whnf))
      ((repeat (first | ((conv => whnf); (with_reducible refine And.intro ?_ ?_); (focus (first | exact Eq.refl _ | exact trivial | exact Int.natCast_nonneg _ | assumption | exact Nat.le_of_ble_eq_true (Eq.refl true) | decide))))); (conv => whnf); apply Exists.intro; apply Exists.intro; apply And.intro; (focus (((repeat (first | ((conv => whnf); (with_reducible refine And.intro ?_ ?_); (focus (first | exact Eq.refl _ | exact trivial | exact Int.natCast_nonneg _ | assumption | exact Nat.le_of_ble_eq_true (Eq.refl true) | decide))))); (conv => whnf)) <;> (rw [map_get (TValue.cells_eq x37) hx37]) <;> ((repeat (first | ((conv => whnf); (with_reducible refine And.intro ?_ ?_); (focus (first | exact Eq.refl _ | exact trivial | exact Int.natCast_nonneg _ | assumption | exact Nat.le_of_ble_eq_true (Eq.refl true) | decide))))); (conv => whnf)) <;> (exact rfl))); apply And.intro; (focus exact rfl); (conv => whnf))
      ((repeat (first | ((conv => whnf); (with_reducible refine And.intro ?_ ?_); (focus (first | exact Eq.refl _ | exact trivial | exact Int.natCast_nonneg _ | assumption | exact Nat.le_of_ble_eq_true (Eq.refl true) | decide))))); (conv => whnf); apply Exists.intro; apply Exists.intro; apply And.intro; (focus (((repeat (first | ((conv => whnf); (with_reducible refine And.intro ?_ ?_); (focus (first | exact Eq.refl _ | exact trivial | exact Int.natCast_nonneg _ | assumption | exact Nat.le_of_ble_eq_true (Eq.refl true) | decide))))); (conv => whnf)) <;> (exact rfl))); apply And.intro; (focus exact rfl); (conv => whnf))
      (repeat (first | ((conv => whnf); (with_reducible refine And.intro ?_ ?_); (focus (first | exact Eq.refl _ | exact trivial | exact Int.natCast_nonneg _ | assumption | exact Nat.le_of_ble_eq_true (Eq.refl true) | decide))))); (conv => whnf)
      refine Exists.intro [] ?_
      (repeat (first | ((conv => whnf); (with_reducible refine And.intro ?_ ?_); (focus (first | exact Eq.refl _ | exact trivial | exact Int.natCast_nonneg _ | assumption | exact Nat.le_of_ble_eq_true (Eq.refl true) | decide))))); (conv => whnf)
      refine CallsX.mono (CallsX.weak (rn []) (ih_lazycref25_Same x34 x37 _ hr38) rfl (WS.mk (wt_cons (wd_agg (wl_cons (WE.refl _) (wl_cons (WE.refl _) (wl_cons (WE.refl _) (wl_cons (WE.refl _) (wl_cons (WE.refl _) (wl_cons (WE.refl _) wl_nil))))))) (wt_cons (wd_agg (wl_cons (WE.refl _) (wl_cons (WE.refl _) (wl_cons (WE.refl _) (wl_cons (WE.refl _) (wl_cons (WE.refl _) (wl_cons (WE.refl _) wl_nil))))))) wt_nil)) wb_nil)) ?_
      rintro d b ⟨rfl, rfl⟩
      (repeat (first | ((conv => whnf); (with_reducible refine And.intro ?_ ?_); (focus (first | exact Eq.refl _ | exact trivial | exact Int.natCast_nonneg _ | assumption | exact Nat.le_of_ble_eq_true (Eq.refl true) | decide))))); (conv => whnf)
      (repeat (first | ((conv => whnf); (with_reducible refine And.intro ?_ ?_); (focus (first | exact Eq.refl _ | exact trivial | exact Int.natCast_nonneg _ | assumption | exact Nat.le_of_ble_eq_true (Eq.refl true) | decide))))); (conv => whnf)
      refine nd (by decide) _ _ _ ?_
      (conv => whnf)
      refine branch_hF hF (fun hc39 hF => ?_) (fun hc39 hF => ?_)
      · refine AWP.seq ?_
        refine nd (by decide) _ _ _ ?_
        (repeat (first | ((conv => whnf); (with_reducible refine And.intro ?_ ?_); (focus (first | exact Eq.refl _ | exact trivial | exact Int.natCast_nonneg _ | assumption | exact Nat.le_of_ble_eq_true (Eq.refl true) | decide))))); (conv => whnf)
        obtain rfl := some_eq hF
        refine nd (by decide) _ _ _ ?_
        (repeat (first | ((conv => whnf); (with_reducible refine And.intro ?_ ?_); (focus (first | exact Eq.refl _ | exact trivial | exact Int.natCast_nonneg _ | assumption | exact Nat.le_of_ble_eq_true (Eq.refl true) | decide))))); (conv => whnf)
        exact Exists.intro (rn []) (WS.mk (wt_cons (wd_c (WE.refl _)) wt_nil) wb_nil)
      · refine nd (by decide) _ _ _ ?_
        (conv => whnf)
        refine nd (by decide) _ _ _ ?_
        (repeat (first | ((conv => whnf); (with_reducible refine And.intro ?_ ?_); (focus (first | exact Eq.refl _ | exact trivial | exact Int.natCast_nonneg _ | assumption | exact Nat.le_of_ble_eq_true (Eq.refl true) | decide))))); (conv => whnf)
        refine AWL.weak (rn []) ?_ (ih_lazycref25_Same_l1 (i_5 + 1) a b xs35 _ hF (pre_i_5 ++ [x34]) (by rw [hs_i_5]; simp) (by rw [hk_i_5]; simp))
        exact (WS.mk (wt_cons wd_ptr (wt_cons wd_ptr (wt_cons (wd_c (we_i (wrap_succ hlen33 hl36))) wt_nil))) (wb_cons rfl (wc_c (WE.refl _) (wc_c (WE.refl _) (wc_c (WE.refl _) (wc_c (WE.refl _) (wc_c (WE.refl _) (wc_c (WE.refl _) wc_nil)))))) (wb_cons rfl (wc_c (WE.refl _) (wc_c (WE.refl _) (wc_c (WE.refl _) (wc_c (WE.refl _) (wc_c (WE.refl _) (wc_c (WE.refl _) wc_nil)))))) wb_nil)))
    · subst hp36
      refine nd (by decide) _ _ _ ?_
      (conv => whnf)
      refine AWP.seq ?_
      refine nd (by decide) _ _ _ ?_
      (repeat (first | ((conv => whnf); (with_reducible refine And.intro ?_ ?_); (focus (first | exact Eq.refl _ | exact trivial | exact Int.natCast_nonneg _ | assumption | exact Nat.le_of_ble_eq_true (Eq.refl true) | decide))))); (conv => whnf)
      obtain rfl := some_eq hF
      refine nd (by decide) _ _ _ ?_
      (repeat (first | ((conv => whnf); (with_reducible refine And.intro ?_ ?_); (focus (first | exact Eq.refl _ | exact trivial | exact Int.natCast_nonneg _ | assumption | exact Nat.le_of_ble_eq_true (Eq.refl true) | decide))))); (conv => whnf)
      exact Exists.intro (rn []) (WS.mk (wt_cons (wd_c (WE.refl _)) wt_nil) wb_nil)
theorem lazycref25_Same_ok : ∀ (a : TValue) (b : TValue), ∀ r, lazycref25_Same a b = some r → lazycref25_Same.M a b r := lazycref25_Same_all.1
theorem lazycref25_Same_l1_ok : ∀ (i_5 : Nat) (a : TValue) (b : TValue) (i_5_s_ : (List TValue)), ∀ r, lazycref25_Same_l1 i_5 a b i_5_s_ = some r → lazycref25_Same_l1.M i_5 a b i_5_s_ r := lazycref25_Same_all.2
end Go.Proofs.YtafniolcakiljaaDoor

set_option linter.unusedVariables false
set_option linter.unusedSimpArgs false
set_option maxRecDepth 100000
set_option maxHeartbeats 4000000
namespace Go.Proofs.YtafniolcakiljaaDoor
open Go Go.Am
def lazyclaw25_ValuesRoundTrip_k1 (s : ByteArray) : Option (Bool) :=
  values_Parse s >>= fun r15 =>
  (if (!((r15.2.fCode == 0) && ((r15.2.fName.toList == (ByteArray.mk #[]).toList) && ((r15.2.fLine == 0) && ((r15.2.fCol == 0) && true))))) = true then some true else values_Print r15.1 >>= fun r16 =>
  (if (r16.toList == s.toList) = true then values_Check r15.1 >>= fun r17 =>
  some (r17 == 0) else some false) >>= fun c18 =>
  some c18) >>= fun c19 =>
  (if c19 = true then lazyclaw25_example >>= fun r20 =>
  some r20 else some false) >>= fun c21 =>
  some c21
def lazyclaw25_ValuesRoundTrip_k1.M (s : ByteArray) (r : Bool) : Prop :=
  AWP Tryd.prog 58 (Code.sub (bodyOf Tryd.f10) [1, 1, 1]) (Code.cont Tryd.prog 58 (bodyOf Tryd.f10) [1, 1, 1] (endK tab Tryd.f10.results [] (WRes (.c none (.v (.bool r))) []))) ⟨[(1, .c none (.v (.string s)))], []⟩
theorem lazyclaw25_ValuesRoundTrip_k1_ok (s : ByteArray) (r : Bool) (hF : lazyclaw25_ValuesRoundTrip_k1 s = some r) : lazyclaw25_ValuesRoundTrip_k1.M s r := by
  unfold lazyclaw25_ValuesRoundTrip_k1 at hF
  unfold lazyclaw25_ValuesRoundTrip_k1.M
  refine AWP.seq ?_
  obtain ⟨r15, hr15, hF⟩ := bind_some hF
  refine nd (by decide) _ _ _ ?_
  (repeat (first | ((conv => whnf); (with_reducible refine And.intro ?_ ?_); (focus (first | exact Eq.refl _ | exact trivial | exact Int.natCast_nonneg _ | assumption | exact Nat.le_of_ble_eq_true (Eq.refl true) | decide))))); (conv => whnf)
  refine Exists.intro [] ?_
  (repeat (first | ((conv => whnf); (with_reducible refine And.intro ?_ ?_); (focus (first | exact Eq.refl _ | exact trivial | exact Int.natCast_nonneg _ | assumption | exact Nat.le_of_ble_eq_true (Eq.refl true) | decide))))); (conv => whnf)
  refine CallsX.mono (CallsX.weak (rn []) (values_Parse_ok s _ hr15) rfl (WS.mk (wt_cons (wd_c (WE.refl _)) wt_nil) wb_nil)) ?_
  rintro d b ⟨rfl, rfl⟩
  (repeat (first | ((conv => whnf); (with_reducible refine And.intro ?_ ?_); (focus (first | exact Eq.refl _ | exact trivial | exact Int.natCast_nonneg _ | assumption | exact Nat.le_of_ble_eq_true (Eq.refl true) | decide))))); (conv => whnf)
  (repeat (first | ((conv => whnf); (with_reducible refine And.intro ?_ ?_); (focus (first | exact Eq.refl _ | exact trivial | exact Int.natCast_nonneg _ | assumption | exact Nat.le_of_ble_eq_true (Eq.refl true) | decide))))); (conv => whnf)
  refine AWP.seq ?_
  obtain ⟨c19, hc19, hF⟩ := bind_some hF
  obtain ⟨c21, hc21, hF⟩ := bind_some hF
  refine AWP.cutN (fun T => ∃ r, WS r T ⟨[(4, .c none (.v (.bool c21)))], []⟩) ?_ (fun T hw => ?_)
  · refine nd (by decide) _ _ _ ?_
    (repeat (first | ((conv => whnf); (with_reducible refine And.intro ?_ ?_); (focus (first | exact Eq.refl _ | exact trivial | exact Int.natCast_nonneg _ | assumption | exact Nat.le_of_ble_eq_true (Eq.refl true) | decide))))); (conv => whnf)
    refine branchG_intro false (fun hc22 => ?_) (fun hc22 => ?_)
    · have hc19 := if_then (by first | assumption | exact Eq.refl _ | simp only [hc22, Bool.and_true, Bool.true_and, Bool.and_false, Bool.false_and, Bool.or_true, Bool.true_or, Bool.or_false, Bool.false_or, Bool.not_true, Bool.not_false, cond_true, cond_false, List.length_map]) hc19
      (conv => whnf)
      obtain rfl := some_eq hc19
      have hc21 := if_then (by first | assumption | exact Eq.refl _ | simp only [hc22, Bool.and_true, Bool.true_and, Bool.and_false, Bool.false_and, Bool.or_true, Bool.true_or, Bool.or_false, Bool.false_or, Bool.not_true, Bool.not_false, cond_true, cond_false, List.length_map]) hc21
      obtain ⟨r20, hr20, hc21⟩ := bind_some hc21
      (repeat (first | ((conv => whnf); (with_reducible refine And.intro ?_ ?_); (focus (first | exact Eq.refl _ | exact trivial | exact Int.natCast_nonneg _ | assumption | exact Nat.le_of_ble_eq_true (Eq.refl true) | decide))))); (conv => whnf)
      refine Exists.intro [] ?_
      (repeat (first | ((conv => whnf); (with_reducible refine And.intro ?_ ?_); (focus (first | exact Eq.refl _ | exact trivial | exact Int.natCast_nonneg _ | assumption | exact Nat.le_of_ble_eq_true (Eq.refl true) | decide))))); (conv => whnf)
      refine CallsX.mono (CallsX.weak (rn []) (lazyclaw25_example_ok _ hr20) rfl (WS.mk wt_nil wb_nil)) ?_
      rintro d b ⟨rfl, rfl⟩
      (repeat (first | ((conv => whnf); (with_reducible refine And.intro ?_ ?_); (focus (first | exact Eq.refl _ | exact trivial | exact Int.natCast_nonneg _ | assumption | exact Nat.le_of_ble_eq_true (Eq.refl true) | decide))))); (conv => whnf)
      obtain rfl := some_eq hc21
      (repeat (first | ((conv => whnf); (with_reducible refine And.intro ?_ ?_); (focus (first | exact Eq.refl _ | exact trivial | exact Int.natCast_nonneg _ | assumption | exact Nat.le_of_ble_eq_true (Eq.refl true) | decide))))); (conv => whnf)
      exact Exists.intro (rn []) (WS.mk (wt_cons (wd_c (we_b (by first | exact Eq.refl _ | simp only [hc22, Bool.and_true, Bool.true_and, Bool.and_false, Bool.false_and, Bool.or_true, Bool.true_or, Bool.or_false, Bool.false_or, Bool.not_true, Bool.not_false, cond_true, cond_false, List.length_map]))) wt_nil) wb_nil)
    · have hc19 := if_else (by first | assumption | exact Eq.refl _ | simp only [hc22, Bool.and_true, Bool.true_and, Bool.and_false, Bool.false_and, Bool.or_true, Bool.true_or, Bool.or_false, Bool.false_or, Bool.not_true, Bool.not_false, cond_true, cond_false, List.length_map]) hc19
      obtain ⟨r16, hr16, hc19⟩ := bind_some hc19
      obtain ⟨c18, hc18, hc19⟩ := bind_some hc19
      (conv => whnf)
      (repeat (first | ((conv => whnf); (with_reducible refine And.intro ?_ ?_); (focus (first | exact Eq.refl _ | exact trivial | exact Int.natCast_nonneg _ | assumption | exact Nat.le_of_ble_eq_true (Eq.refl true) | decide))))); (conv => whnf)
      refine Exists.intro [] ?_
      (repeat (first | ((conv => whnf); (with_reducible refine And.intro ?_ ?_); (focus (first | exact Eq.refl _ | exact trivial | exact Int.natCast_nonneg _ | assumption | exact Nat.le_of_ble_eq_true (Eq.refl true) | decide))))); (conv => whnf)
      refine CallsX.mono (CallsX.weak (rn []) (values_Print_ok r15.1 _ hr16) rfl (WS.mk (wt_cons (wd_agg (wl_cons (WE.refl _) (wl_cons (WE.refl _) (wl_cons (WE.refl _) (wl_cons (WE.refl _) (wl_cons (WE.refl _) (wl_cons (WE.refl _) wl_nil))))))) wt_nil) wb_nil)) ?_
      rintro d b ⟨rfl, rfl⟩
      (repeat (first | ((conv => whnf); (with_reducible refine And.intro ?_ ?_); (focus (first | exact Eq.refl _ | exact trivial | exact Int.natCast_nonneg _ | assumption | exact Nat.le_of_ble_eq_true (Eq.refl true) | decide))))); (conv => whnf)
      (repeat (first | ((conv => whnf); (with_reducible refine And.intro ?_ ?_); (focus (first | exact Eq.refl _ | exact trivial | exact Int.natCast_nonneg _ | assumption | exact Nat.le_of_ble_eq_true (Eq.refl true) | decide))))); (conv => whnf)
      refine branchG_intro true (fun hc23 => ?_) (fun hc23 => ?_)
      · have hc18 := if_then (by first | assumption | exact Eq.refl _ | simp only [hc22, hc23, Bool.and_true, Bool.true_and, Bool.and_false, Bool.false_and, Bool.or_true, Bool.true_or, Bool.or_false, Bool.false_or, Bool.not_true, Bool.not_false, cond_true, cond_false, List.length_map]) hc18
        obtain ⟨r17, hr17, hc18⟩ := bind_some hc18
        (conv => whnf)
        (repeat (first | ((conv => whnf); (with_reducible refine And.intro ?_ ?_); (focus (first | exact Eq.refl _ | exact trivial | exact Int.natCast_nonneg _ | assumption | exact Nat.le_of_ble_eq_true (Eq.refl true) | decide))))); (conv => whnf)
        refine Exists.intro [] ?_
        (repeat (first | ((conv => whnf); (with_reducible refine And.intro ?_ ?_); (focus (first | exact Eq.refl _ | exact trivial | exact Int.natCast_nonneg _ | assumption | exact Nat.le_of_ble_eq_true (Eq.refl true) | decide))))); (conv => whnf)
        refine CallsX.mono (CallsX.weak (rn []) (values_Check_ok r15.1 _ hr17) rfl (WS.mk (wt_cons (wd_agg (wl_cons (WE.refl _) (wl_cons (WE.refl _) (wl_cons (WE.refl _) (wl_cons (WE.refl _) (wl_cons (WE.refl _) (wl_cons (WE.refl _) wl_nil))))))) wt_nil) wb_nil)) ?_
        rintro d b ⟨rfl, rfl⟩
        (repeat (first | ((conv => whnf); (with_reducible refine And.intro ?_ ?_); (focus (first | exact Eq.refl _ | exact trivial | exact Int.natCast_nonneg _ | assumption | exact Nat.le_of_ble_eq_true (Eq.refl true) | decide))))); (conv => whnf)
        obtain rfl := some_eq hc18
        obtain rfl := some_eq hc19
        (repeat (first | ((conv => whnf); (with_reducible refine And.intro ?_ ?_); (focus (first | exact Eq.refl _ | exact trivial | exact Int.natCast_nonneg _ | assumption | exact Nat.le_of_ble_eq_true (Eq.refl true) | decide))))); (conv => whnf)
        refine branchG_intro true (fun hc24 => ?_) (fun hc24 => ?_)
        · have hc21 := if_then (by first | assumption | exact Eq.refl _ | simp only [hc22, hc23, hc24, Bool.and_true, Bool.true_and, Bool.and_false, Bool.false_and, Bool.or_true, Bool.true_or, Bool.or_false, Bool.false_or, Bool.not_true, Bool.not_false, cond_true, cond_false, List.length_map]) hc21
          obtain ⟨r20, hr20, hc21⟩ := bind_some hc21
          (conv => whnf)
          (repeat (first | ((conv => whnf); (with_reducible refine And.intro ?_ ?_); (focus (first | exact Eq.refl _ | exact trivial | exact Int.natCast_nonneg _ | assumption | exact Nat.le_of_ble_eq_true (Eq.refl true) | decide))))); (conv => whnf)
          refine Exists.intro [] ?_
          (repeat (first | ((conv => whnf); (with_reducible refine And.intro ?_ ?_); (focus (first | exact Eq.refl _ | exact trivial | exact Int.natCast_nonneg _ | assumption | exact Nat.le_of_ble_eq_true (Eq.refl true) | decide))))); (conv => whnf)
          refine CallsX.mono (CallsX.weak (rn []) (lazyclaw25_example_ok _ hr20) rfl (WS.mk wt_nil wb_nil)) ?_
          rintro d b ⟨rfl, rfl⟩
          (repeat (first | ((conv => whnf); (with_reducible refine And.intro ?_ ?_); (focus (first | exact Eq.refl _ | exact trivial | exact Int.natCast_nonneg _ | assumption | exact Nat.le_of_ble_eq_true (Eq.refl true) | decide))))); (conv => whnf)
          obtain rfl := some_eq hc21
          (repeat (first | ((conv => whnf); (with_reducible refine And.intro ?_ ?_); (focus (first | exact Eq.refl _ | exact trivial | exact Int.natCast_nonneg _ | assumption | exact Nat.le_of_ble_eq_true (Eq.refl true) | decide))))); (conv => whnf)
          exact Exists.intro (rn []) (WS.mk (wt_cons (wd_c (we_b (by first | exact Eq.refl _ | simp only [hc22, hc23, hc24, Bool.and_true, Bool.true_and, Bool.and_false, Bool.false_and, Bool.or_true, Bool.true_or, Bool.or_false, Bool.false_or, Bool.not_true, Bool.not_false, cond_true, cond_false, List.length_map]))) wt_nil) wb_nil)
        · have hc21 := if_else (by first | assumption | exact Eq.refl _ | simp only [hc22, hc23, hc24, Bool.and_true, Bool.true_and, Bool.and_false, Bool.false_and, Bool.or_true, Bool.true_or, Bool.or_false, Bool.false_or, Bool.not_true, Bool.not_false, cond_true, cond_false, List.length_map]) hc21
          (conv => whnf)
          obtain rfl := some_eq hc21
          (repeat (first | ((conv => whnf); (with_reducible refine And.intro ?_ ?_); (focus (first | exact Eq.refl _ | exact trivial | exact Int.natCast_nonneg _ | assumption | exact Nat.le_of_ble_eq_true (Eq.refl true) | decide))))); (conv => whnf)
          exact Exists.intro (rn []) (WS.mk (wt_cons (wd_c (we_b (by first | exact Eq.refl _ | simp only [hc22, hc23, hc24, Bool.and_true, Bool.true_and, Bool.and_false, Bool.false_and, Bool.or_true, Bool.true_or, Bool.or_false, Bool.false_or, Bool.not_true, Bool.not_false, cond_true, cond_false, List.length_map]))) wt_nil) wb_nil)
      · have hc18 := if_else (by first | assumption | exact Eq.refl _ | simp only [hc22, hc23, Bool.and_true, Bool.true_and, Bool.and_false, Bool.false_and, Bool.or_true, Bool.true_or, Bool.or_false, Bool.false_or, Bool.not_true, Bool.not_false, cond_true, cond_false, List.length_map]) hc18
        (conv => whnf)
        obtain rfl := some_eq hc18
        obtain rfl := some_eq hc19
        have hc21 := if_else (by first | assumption | exact Eq.refl _ | simp only [hc22, hc23, Bool.and_true, Bool.true_and, Bool.and_false, Bool.false_and, Bool.or_true, Bool.true_or, Bool.or_false, Bool.false_or, Bool.not_true, Bool.not_false, cond_true, cond_false, List.length_map]) hc21
        obtain rfl := some_eq hc21
        (repeat (first | ((conv => whnf); (with_reducible refine And.intro ?_ ?_); (focus (first | exact Eq.refl _ | exact trivial | exact Int.natCast_nonneg _ | assumption | exact Nat.le_of_ble_eq_true (Eq.refl true) | decide))))); (conv => whnf)
        exact Exists.intro (rn []) (WS.mk (wt_cons (wd_c (we_b (by first | exact Eq.refl _ | simp only [hc22, hc23, Bool.and_true, Bool.true_and, Bool.and_false, Bool.false_and, Bool.or_true, Bool.true_or, Bool.or_false, Bool.false_or, Bool.not_true, Bool.not_false, cond_true, cond_false, List.length_map]))) wt_nil) wb_nil)
  obtain ⟨r0, hw⟩ := hw
  (conv => whnf)
  refine AWP.weak r0 hw ?_
  obtain rfl := some_eq hF
  refine nd (by decide) _ _ _ ?_
  (repeat (first | ((conv => whnf); (with_reducible refine And.intro ?_ ?_); (focus (first | exact Eq.refl _ | exact trivial | exact Int.natCast_nonneg _ | assumption | exact Nat.le_of_ble_eq_true (Eq.refl true) | decide))))); (conv => whnf)
  exact Exists.intro (rn []) (WS.mk (wt_cons (wd_c (WE.refl _)) wt_nil) wb_nil)
end Go.Proofs.YtafniolcakiljaaDoor

set_option linter.unusedVariables false
set_option linter.unusedSimpArgs false
set_option maxRecDepth 100000
set_option maxHeartbeats 4000000
namespace Go.Proofs.YtafniolcakiljaaDoor
open Go Go.Am
def lazyclaw25_ValuesRoundTrip (v : TValue) (s : ByteArray) : Option (Bool) :=
  lazyclaw25_small v >>= fun r4 =>
  if ((!r4) || (decide (((s.size : Nat) : Int) > 20000))) = true then
  lazyclaw25_example >>= fun r7 =>
  some r7
  else
  values_Check v >>= fun r25 =>
  if (r25 == 0) = true then
  values_Print v >>= fun r27 =>
  values_Parse r27 >>= fun r28 =>
  (if (!((r28.2.fCode == 0) && ((r28.2.fName.toList == (ByteArray.mk #[]).toList) && ((r28.2.fLine == 0) && ((r28.2.fCol == 0) && true))))) = true then some true else values_Same v r28.1 >>= fun r29 =>
  some (!r29)) >>= fun c30 =>
  if c30 = true then
  some false
  else
  lazyclaw25_ValuesRoundTrip_k1 s
  else
  lazyclaw25_ValuesRoundTrip_k1 s
def lazyclaw25_ValuesRoundTrip.M (v : TValue) (s : ByteArray) (r : Bool) : Prop :=
  CallsX Tryd.prog 10 [.agg [.v (.int .i64 v.fOp), .v (.string v.fName), .v (.int .i64 v.fN), .sl (v.fKids.map TValue.cells), .v (.bool v.fSet.fAll), .sl (v.fSet.fList.map TExc.cells)], .c none (.v (.string s))] [] (fun d b => d = .c none (.v (.bool r)) ∧ b = [])
theorem lazyclaw25_ValuesRoundTrip_ok (v : TValue) (s : ByteArray) (r : Bool) (hF : lazyclaw25_ValuesRoundTrip v s = some r) : lazyclaw25_ValuesRoundTrip.M v s r := by
  unfold lazyclaw25_ValuesRoundTrip at hF
  unfold lazyclaw25_ValuesRoundTrip.M
  refine enter tabOk Tryd.func10 rfl (by decide) (Nat.le_of_ble_eq_true rfl) rfl rfl rfl ?_
  refine AWP.seq ?_
  refine nd (by decide) _ _ _ ?_
  (repeat (first | ((conv => whnf); (with_reducible refine And.intro ?_ ?_); (focus (first | exact Eq.refl _ | exact trivial | exact Int.natCast_nonneg _ | assumption | exact Nat.le_of_ble_eq_true (Eq.refl true) | decide))))); (conv => whnf)
  refine AWP.seq ?_
  refine AWP.seq ?_
  obtain ⟨r4, hr4, hF⟩ := bind_some hF
  refine AWP.cutN (fun T => ∃ r, WS r T ⟨[(1, .c none (.v (.string s))), (2, .ptr 2 0), (16, .c none (.v (.bool ((!r4) || (decide (((s.size : Nat) : Int) > 20000))))))], [(2, [(none, .v (.int .i64 v.fOp)), (none, .v (.string v.fName)), (none, .v (.int .i64 v.fN)), (none, .sl (v.fKids.map TValue.cells)), (none, .v (.bool v.fSet.fAll)), (none, .sl (v.fSet.fList.map TExc.cells))])]⟩) ?_ (fun T hw => ?_)
  · refine nd (by decide) _ _ _ ?_
    (repeat (first | ((conv => whnf); (with_reducible refine And.intro ?_ ?_); (focus (first | exact Eq.refl _ | exact trivial | exact Int.natCast_nonneg _ | assumption | exact Nat.le_of_ble_eq_true (Eq.refl true) | decide))))); (conv => whnf)
    refine Exists.intro [] ?_
    (repeat (first | ((conv => whnf); (with_reducible refine And.intro ?_ ?_); (focus (first | exact Eq.refl _ | exact trivial | exact Int.natCast_nonneg _ | assumption | exact Nat.le_of_ble_eq_true (Eq.refl true) | decide))))); (conv => whnf)
    refine CallsX.mono (CallsX.weak (rn []) (lazyclaw25_small_ok v _ hr4) rfl (WS.mk (wt_cons (wd_agg (wl_cons (WE.refl _) (wl_cons (WE.refl _) (wl_cons (WE.refl _) (wl_cons (WE.refl _) (wl_cons (WE.refl _) (wl_cons (WE.refl _) wl_nil))))))) wt_nil) wb_nil)) ?_
    rintro d b ⟨rfl, rfl⟩
    (repeat (first | ((conv => whnf); (with_reducible refine And.intro ?_ ?_); (focus (first | exact Eq.refl _ | exact trivial | exact Int.natCast_nonneg _ | assumption | exact Nat.le_of_ble_eq_true (Eq.refl true) | decide))))); (conv => whnf)
    (repeat (first | ((conv => whnf); (with_reducible refine And.intro ?_ ?_); (focus (first | exact Eq.refl _ | exact trivial | exact Int.natCast_nonneg _ | assumption | exact Nat.le_of_ble_eq_true (Eq.refl true) | decide))))); (conv => whnf)
    refine branchG_intro false (fun hc5 => ?_) (fun hc5 => ?_)
    · (conv => whnf)
      (repeat (first | ((conv => whnf); (with_reducible refine And.intro ?_ ?_); (focus (first | exact Eq.refl _ | exact trivial | exact Int.natCast_nonneg _ | assumption | exact Nat.le_of_ble_eq_true (Eq.refl true) | decide))))); (conv => whnf)
      exact Exists.intro (rn []) (WS.mk (wt_cons (wd_c (WE.refl _)) (wt_cons wd_ptr (wt_cons (wd_c (we_b (by first | exact Eq.refl _ | simp only [hc5, Bool.and_true, Bool.true_and, Bool.and_false, Bool.false_and, Bool.or_true, Bool.true_or, Bool.or_false, Bool.false_or, Bool.not_true, Bool.not_false, cond_true, cond_false, List.length_map]))) wt_nil))) (wb_cons rfl (wc_c (WE.refl _) (wc_c (WE.refl _) (wc_c (WE.refl _) (wc_c (WE.refl _) (wc_c (WE.refl _) (wc_c (WE.refl _) wc_nil)))))) wb_nil))
    · (conv => whnf)
      (repeat (first | ((conv => whnf); (with_reducible refine And.intro ?_ ?_); (focus (first | exact Eq.refl _ | exact trivial | exact Int.natCast_nonneg _ | assumption | exact Nat.le_of_ble_eq_true (Eq.refl true) | decide))))); (conv => whnf)
      exact Exists.intro (rn []) (WS.mk (wt_cons (wd_c (WE.refl _)) (wt_cons wd_ptr (wt_cons (wd_c (we_b (by first | exact Eq.refl _ | simp only [hc5, Bool.and_true, Bool.true_and, Bool.and_false, Bool.false_and, Bool.or_true, Bool.true_or, Bool.or_false, Bool.false_or, Bool.not_true, Bool.not_false, cond_true, cond_false, List.length_map]))) wt_nil))) (wb_cons rfl (wc_c (WE.refl _) (wc_c (WE.refl _) (wc_c (WE.refl _) (wc_c (WE.refl _) (wc_c (WE.refl _) (wc_c (WE.refl _) wc_nil)))))) wb_nil))
  obtain ⟨r0, hw⟩ := hw
  (conv => whnf)
  refine AWP.weak r0 hw ?_
  refine nd (by decide) _ _ _ ?_
  (conv => whnf)
  refine branch_hF hF (fun hc6 hF => ?_) (fun hc6 hF => ?_)
  · refine AWP.seq ?_
    obtain ⟨r7, hr7, hF⟩ := bind_some hF
    refine nd (by decide) _ _ _ ?_
    (repeat (first | ((conv => whnf); (with_reducible refine And.intro ?_ ?_); (focus (first | exact Eq.refl _ | exact trivial | exact Int.natCast_nonneg _ | assumption | exact Nat.le_of_ble_eq_true (Eq.refl true) | decide))))); (conv => whnf)
    refine Exists.intro [] ?_
    (repeat (first | ((conv => whnf); (with_reducible refine And.intro ?_ ?_); (focus (first | exact Eq.refl _ | exact trivial | exact Int.natCast_nonneg _ | assumption | exact Nat.le_of_ble_eq_true (Eq.refl true) | decide))))); (conv => whnf)
    refine CallsX.mono (CallsX.weak (rn []) (lazyclaw25_example_ok _ hr7) rfl (WS.mk wt_nil wb_nil)) ?_
    rintro d b ⟨rfl, rfl⟩
    (repeat (first | ((conv => whnf); (with_reducible refine And.intro ?_ ?_); (focus (first | exact Eq.refl _ | exact trivial | exact Int.natCast_nonneg _ | assumption | exact Nat.le_of_ble_eq_true (Eq.refl true) | decide))))); (conv => whnf)
    (repeat (first | ((conv => whnf); (with_reducible refine And.intro ?_ ?_); (focus (first | exact Eq.refl _ | exact trivial | exact Int.natCast_nonneg _ | assumption | exact Nat.le_of_ble_eq_true (Eq.refl true) | decide))))); (conv => whnf)
    obtain rfl := some_eq hF
    refine nd (by decide) _ _ _ ?_
    (repeat (first | ((conv => whnf); (with_reducible refine And.intro ?_ ?_); (focus (first | exact Eq.refl _ | exact trivial | exact Int.natCast_nonneg _ | assumption | exact Nat.le_of_ble_eq_true (Eq.refl true) | decide))))); (conv => whnf)
    exact Exists.intro (rn []) (WS.mk (wt_cons (wd_c (WE.refl _)) wt_nil) wb_nil)
  · refine nd (by decide) _ _ _ ?_
    (conv => whnf)
    refine AWP.seq ?_
    refine AWP.seq ?_
    obtain ⟨r25, hr25, hF⟩ := bind_some hF
    refine nd (by decide) _ _ _ ?_
    (repeat (first | ((conv => whnf); (with_reducible refine And.intro ?_ ?_); (focus (first | exact Eq.refl _ | exact trivial | exact Int.natCast_nonneg _ | assumption | exact Nat.le_of_ble_eq_true (Eq.refl true) | decide))))); (conv => whnf)
    refine Exists.intro [] ?_
    (repeat (first | ((conv => whnf); (with_reducible refine And.intro ?_ ?_); (focus (first | exact Eq.refl _ | exact trivial | exact Int.natCast_nonneg _ | assumption | exact Nat.le_of_ble_eq_true (Eq.refl true) | decide))))); (conv => whnf)
    refine CallsX.mono (CallsX.weak (rn []) (values_Check_ok v _ hr25) rfl (WS.mk (wt_cons (wd_agg (wl_cons (WE.refl _) (wl_cons (WE.refl _) (wl_cons (WE.refl _) (wl_cons (WE.refl _) (wl_cons (WE.refl _) (wl_cons (WE.refl _) wl_nil))))))) wt_nil) wb_nil)) ?_
    rintro d b ⟨rfl, rfl⟩
    (repeat (first | ((conv => whnf); (with_reducible refine And.intro ?_ ?_); (focus (first | exact Eq.refl _ | exact trivial | exact Int.natCast_nonneg _ | assumption | exact Nat.le_of_ble_eq_true (Eq.refl true) | decide))))); (conv => whnf)
    (repeat (first | ((conv => whnf); (with_reducible refine And.intro ?_ ?_); (focus (first | exact Eq.refl _ | exact trivial | exact Int.natCast_nonneg _ | assumption | exact Nat.le_of_ble_eq_true (Eq.refl true) | decide))))); (conv => whnf)
    refine nd (by decide) _ _ _ ?_
    (conv => whnf)
    refine branch_hF hF (fun hc26 hF => ?_) (fun hc26 hF => ?_)
    · refine AWP.seq ?_
      obtain ⟨r27, hr27, hF⟩ := bind_some hF
      obtain ⟨r28, hr28, hF⟩ := bind_some hF
      refine nd (by decide) _ _ _ ?_
      (repeat (first | ((conv => whnf); (with_reducible refine And.intro ?_ ?_); (focus (first | exact Eq.refl _ | exact trivial | exact Int.natCast_nonneg _ | assumption | exact Nat.le_of_ble_eq_true (Eq.refl true) | decide))))); (conv => whnf)
      refine Exists.intro [] ?_
      (repeat (first | ((conv => whnf); (with_reducible refine And.intro ?_ ?_); (focus (first | exact Eq.refl _ | exact trivial | exact Int.natCast_nonneg _ | assumption | exact Nat.le_of_ble_eq_true (Eq.refl true) | decide))))); (conv => whnf)
      refine CallsX.mono (CallsX.weak (rn []) (values_Print_ok v _ hr27) rfl (WS.mk (wt_cons (wd_agg (wl_cons (WE.refl _) (wl_cons (WE.refl _) (wl_cons (WE.refl _) (wl_cons (WE.refl _) (wl_cons (WE.refl _) (wl_cons (WE.refl _) wl_nil))))))) wt_nil) wb_nil)) ?_
      rintro d b ⟨rfl, rfl⟩
      (repeat (first | ((conv => whnf); (with_reducible refine And.intro ?_ ?_); (focus (first | exact Eq.refl _ | exact trivial | exact Int.natCast_nonneg _ | assumption | exact Nat.le_of_ble_eq_true (Eq.refl true) | decide))))); (conv => whnf)
      (repeat (first | ((conv => whnf); (with_reducible refine And.intro ?_ ?_); (focus (first | exact Eq.refl _ | exact trivial | exact Int.natCast_nonneg _ | assumption | exact Nat.le_of_ble_eq_true (Eq.refl true) | decide))))); (conv => whnf)
      refine Exists.intro [] ?_
      (repeat (first | ((conv => whnf); (with_reducible refine And.intro ?_ ?_); (focus (first | exact Eq.refl _ | exact trivial | exact Int.natCast_nonneg _ | assumption | exact Nat.le_of_ble_eq_true (Eq.refl true) | decide))))); (conv => whnf)
      refine CallsX.mono (CallsX.weak (rn []) (values_Parse_ok r27 _ hr28) rfl (WS.mk (wt_cons (wd_c (WE.refl _)) wt_nil) wb_nil)) ?_
      rintro d b ⟨rfl, rfl⟩
      (repeat (first | ((conv => whnf); (with_reducible refine And.intro ?_ ?_); (focus (first | exact Eq.refl _ | exact trivial | exact Int.natCast_nonneg _ | assumption | exact Nat.le_of_ble_eq_true (Eq.refl true) | decide))))); (conv => whnf)
      (repeat (first | ((conv => whnf); (with_reducible refine And.intro ?_ ?_); (focus (first | exact Eq.refl _ | exact trivial | exact Int.natCast_nonneg _ | assumption | exact Nat.le_of_ble_eq_true (Eq.refl true) | decide))))); (conv => whnf)
      refine AWP.seq ?_
      obtain ⟨c30, hc30, hF⟩ := bind_some hF
      refine AWP.cutN (fun T => ∃ r, WS r T ⟨[(1, .c none (.v (.string s))), (35, .c none (.v (.bool c30)))], []⟩) ?_ (fun T hw => ?_)
      · refine nd (by decide) _ _ _ ?_
        (repeat (first | ((conv => whnf); (with_reducible refine And.intro ?_ ?_); (focus (first | exact Eq.refl _ | exact trivial | exact Int.natCast_nonneg _ | assumption | exact Nat.le_of_ble_eq_true (Eq.refl true) | decide))))); (conv => whnf)
        refine branchG_intro false (fun hc31 => ?_) (fun hc31 => ?_)
        · have hc30 := if_then (by first | assumption | exact Eq.refl _ | simp only [hc31, Bool.and_true, Bool.true_and, Bool.and_false, Bool.false_and, Bool.or_true, Bool.true_or, Bool.or_false, Bool.false_or, Bool.not_true, Bool.not_false, cond_true, cond_false, List.length_map]) hc30
          (conv => whnf)
          obtain rfl := some_eq hc30
          (repeat (first | ((conv => whnf); (with_reducible refine And.intro ?_ ?_); (focus (first | exact Eq.refl _ | exact trivial | exact Int.natCast_nonneg _ | assumption | exact Nat.le_of_ble_eq_true (Eq.refl true) | decide))))); (conv => whnf)
          exact Exists.intro (rn []) (WS.mk (wt_cons (wd_c (WE.refl _)) (wt_cons (wd_c (we_b (by first | exact Eq.refl _ | simp only [hc31, Bool.and_true, Bool.true_and, Bool.and_false, Bool.false_and, Bool.or_true, Bool.true_or, Bool.or_false, Bool.false_or, Bool.not_true, Bool.not_false, cond_true, cond_false, List.length_map]))) wt_nil)) wb_nil)
        · have hc30 := if_else (by first | assumption | exact Eq.refl _ | simp only [hc31, Bool.and_true, Bool.true_and, Bool.and_false, Bool.false_and, Bool.or_true, Bool.true_or, Bool.or_false, Bool.false_or, Bool.not_true, Bool.not_false, cond_true, cond_false, List.length_map]) hc30
          obtain ⟨r29, hr29, hc30⟩ := bind_some hc30
          (conv => whnf)
          (repeat (first | ((conv => whnf); (with_reducible refine And.intro ?_ ?_); (focus (first | exact Eq.refl _ | exact trivial | exact Int.natCast_nonneg _ | assumption | exact Nat.le_of_ble_eq_true (Eq.refl true) | decide))))); (conv => whnf)
          refine Exists.intro [] ?_
          (repeat (first | ((conv => whnf); (with_reducible refine And.intro ?_ ?_); (focus (first | exact Eq.refl _ | exact trivial | exact Int.natCast_nonneg _ | assumption | exact Nat.le_of_ble_eq_true (Eq.refl true) | decide))))); (conv => whnf)
          refine CallsX.mono (CallsX.weak (rn []) (values_Same_ok v r28.1 _ hr29) rfl (WS.mk (wt_cons (wd_agg (wl_cons (WE.refl _) (wl_cons (WE.refl _) (wl_cons (WE.refl _) (wl_cons (WE.refl _) (wl_cons (WE.refl _) (wl_cons (WE.refl _) wl_nil))))))) (wt_cons (wd_agg (wl_cons (WE.refl _) (wl_cons (WE.refl _) (wl_cons (WE.refl _) (wl_cons (WE.refl _) (wl_cons (WE.refl _) (wl_cons (WE.refl _) wl_nil))))))) wt_nil)) wb_nil)) ?_
          rintro d b ⟨rfl, rfl⟩
          (repeat (first | ((conv => whnf); (with_reducible refine And.intro ?_ ?_); (focus (first | exact Eq.refl _ | exact trivial | exact Int.natCast_nonneg _ | assumption | exact Nat.le_of_ble_eq_true (Eq.refl true) | decide))))); (conv => whnf)
          obtain rfl := some_eq hc30
          (repeat (first | ((conv => whnf); (with_reducible refine And.intro ?_ ?_); (focus (first | exact Eq.refl _ | exact trivial | exact Int.natCast_nonneg _ | assumption | exact Nat.le_of_ble_eq_true (Eq.refl true) | decide))))); (conv => whnf)
          exact Exists.intro (rn []) (WS.mk (wt_cons (wd_c (WE.refl _)) (wt_cons (wd_c (we_b (by first | exact Eq.refl _ | simp only [hc31, Bool.and_true, Bool.true_and, Bool.and_false, Bool.false_and, Bool.or_true, Bool.true_or, Bool.or_false, Bool.false_or, Bool.not_true, Bool.not_false, cond_true, cond_false, List.length_map]))) wt_nil)) wb_nil)
      obtain ⟨r0, hw⟩ := hw
      (conv => whnf)
      refine AWP.weak r0 hw ?_
      refine nd (by decide) _ _ _ ?_
      (conv => whnf)
      refine branch_hF hF (fun hc32 hF => ?_) (fun hc32 hF => ?_)
      · refine AWP.seq ?_
        refine nd (by decide) _ _ _ ?_
        (repeat (first | ((conv => whnf); (with_reducible refine And.intro ?_ ?_); (focus (first | exact Eq.refl _ | exact trivial | exact Int.natCast_nonneg _ | assumption | exact Nat.le_of_ble_eq_true (Eq.refl true) | decide))))); (conv => whnf)
        obtain rfl := some_eq hF
        refine nd (by decide) _ _ _ ?_
        (repeat (first | ((conv => whnf); (with_reducible refine And.intro ?_ ?_); (focus (first | exact Eq.refl _ | exact trivial | exact Int.natCast_nonneg _ | assumption | exact Nat.le_of_ble_eq_true (Eq.refl true) | decide))))); (conv => whnf)
        exact Exists.intro (rn []) (WS.mk (wt_cons (wd_c (WE.refl _)) wt_nil) wb_nil)
      · refine nd (by decide) _ _ _ ?_
        (conv => whnf)
        refine AWP.weak (rn []) ?_ (lazyclaw25_ValuesRoundTrip_k1_ok s _ hF)
        exact (WS.mk (wt_cons (wd_c (WE.refl _)) wt_nil) wb_nil)
    · refine nd (by decide) _ _ _ ?_
      (conv => whnf)
      refine AWP.weak (rn []) ?_ (lazyclaw25_ValuesRoundTrip_k1_ok s _ hF)
      exact (WS.mk (wt_cons (wd_c (WE.refl _)) wt_nil) wb_nil)
end Go.Proofs.YtafniolcakiljaaDoor

