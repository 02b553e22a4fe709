/- Part 5 of the proof: the lifted functions and their walks. It holds for every input, without conditions. -/
import Derived.Test.YtafniolcakiljaaGreatDoorVpA
import Derived.Test.YtafniolcakiljaaGreatDoorVpB
import Derived.Test.YtafniolcakiljaaGreatDoorVpC
import Derived.Test.YtafniolcakiljaaGreatDoorVpD
set_option linter.unusedVariables false
set_option linter.unusedSimpArgs false
set_option maxRecDepth 100000
set_option maxHeartbeats 4000000
namespace Go.Proofs.YtafniolcakiljaaGreatDoor
open Go Go.Am
def lazycref25_ConName_l1 (s : ByteArray) (i_3 : Nat) : Option (Bool) :=
  if (decide (((i_3 : Nat) : Int) < ((s.size : Nat) : Int))) = true then
  (btI s ((i_3 : Nat) : Int)) >>= fun y40 =>
  (if (decide (((y40.toNat : Nat) : Int) < 33)) = true then some true else (btI s ((i_3 : Nat) : Int)) >>= fun y41 =>
  some (decide (((y41.toNat : Nat) : Int) > 126))) >>= fun c42 =>
  if c42 = true then
  some false
  else
  guardP (i_3 + 1 ≤ 9223372036854775807) >>= fun _ =>
  lazycref25_ConName_l1 s (i_3 + 1)
  else
  (btI s 0) >>= fun y46 =>
  (if (decide (((y46.toNat : Nat) : Int) ≥ 65)) = true then (btI s 0) >>= fun y47 =>
  some (decide (((y47.toNat : Nat) : Int) ≤ 90)) else some false) >>= fun c48 =>
  (if c48 = true then some true else (btI s 0) >>= fun y49 =>
  some (((y49.toNat : Nat) : Int) == 58)) >>= fun c50 =>
  (if c50 = true then some true else (btI s 0) >>= fun y51 =>
  some (((y51.toNat : Nat) : Int) == 91)) >>= fun c52 =>
  (if c52 = true then some true else (btI s 0) >>= fun y53 =>
  some (((y53.toNat : Nat) : Int) == 40)) >>= fun c54 =>
  some c54
  partial_fixpoint
def lazycref25_ConName_l1.M (s : ByteArray) (i_3 : Nat) (r : Bool) : Prop :=
  AWL Tryz.prog 54 (Code.sub (bodyOf Tryz.f37) [1, 1, 0, 1, 0, 0]) (Code.cont Tryz.prog 54 (bodyOf Tryz.f37) [1, 1, 0, 1, 0] (endK tab Tryz.f37.results [] (WRes (.c none (.v (.bool r))) []))) ⟨[(0, .c none (.v (.string s))), (3, .c none (.v (.int .i64 ((i_3 : Nat) : Int))))], []⟩
theorem lazycref25_ConName_l1_ok (s : ByteArray) (i_3 : Nat) : ∀ r, lazycref25_ConName_l1 s i_3 = some r → lazycref25_ConName_l1.M s i_3 r := by
  refine lazycref25_ConName_l1.partial_correctness s (fun i_3 r => lazycref25_ConName_l1.M s i_3 r) ?_ i_3
  intro lazycref25_ConName_l1' ih0_lazycref25_ConName_l1 i_3 r hF
  have ih_lazycref25_ConName_l1 := fun (_s : ByteArray) (i_3 : Nat) => ih0_lazycref25_ConName_l1 i_3
  clear ih0_lazycref25_ConName_l1
  unfold lazycref25_ConName_l1.M
  refine AWL.step ?_
  refine AWP.seq ?_
  refine AWP.seq ?_
  refine ns ?_
  refine nw ?_
  refine branch_hF hF (fun hc39 hF => ?_) (fun hc39 hF => ?_)
  · refine nw ?_
    refine AWP.seq ?_
    refine AWP.block ?_
    refine AWP.seq ?_
    obtain ⟨y40, hy400, hy40, hF⟩ := bt_some hF
    obtain ⟨c42, hc42, hF⟩ := bind_some hF
    refine AWP.cutN (fun T => ∃ r, WS r T ⟨[(0, .c none (.v (.string s))), (3, .c none (.v (.int .i64 ((i_3 : Nat) : Int)))), (30, .c none (.v (.bool c42)))], []⟩) ?_ (fun T hw => ?_)
    · refine nn ?_
      refine sr hy40 ?_
      refine st ?_
      refine branchG_intro false (fun hc43 => ?_) (fun hc43 => ?_)
      · have hc42 := ift hc43 hc42
        (conv => whnf)
        obtain rfl := some_eq hc42
        refine st ?_
        exact wx (WS.mk (tc (tc (wt_cons (wd_c (web hc43)) wt_nil))) wb_nil)
      · have hc42 := ife hc43 hc42
        obtain ⟨y41, hy410, hy41, hc42⟩ := bt_some hc42
        (conv => whnf)
        refine sr hy41 ?_
        obtain rfl := some_eq hc42
        refine st ?_
        exact wx (WS.mk (tc (tc (wt_cons (wd_c (web hc43)) wt_nil))) wb_nil)
    obtain ⟨r0, hw⟩ := hw
    (conv => whnf)
    refine AWP.weak r0 hw ?_
    refine nw ?_
    refine branch_hF hF (fun hc44 hF => ?_) (fun hc44 hF => ?_)
    · refine AWP.seq ?_
      refine ns ?_
      obtain rfl := some_eq hF
      refine ns ?_
      exact wx (WS.mk (tc wt_nil) wb_nil)
    · refine nw ?_
      obtain ⟨hg45, hF⟩ := guard_some hF
      refine ns ?_
      refine AWL.weak (rn []) ?_ (ih_lazycref25_ConName_l1 s (i_3 + 1) _ hF)
      exact (WS.mk (tc (wt_cons (wd_c (we_i (wrap_nat hg45))) wt_nil)) wb_nil)
  · refine nw ?_
    refine AWP.seq ?_
    obtain ⟨y46, hy460, hy46, hF⟩ := bt_some hF
    obtain ⟨c48, hc48, hF⟩ := bind_some hF
    obtain ⟨c50, hc50, hF⟩ := bind_some hF
    obtain ⟨c52, hc52, hF⟩ := bind_some hF
    obtain ⟨c54, hc54, hF⟩ := bind_some hF
    refine AWP.cutN (fun T => ∃ r, WS r T ⟨[(2, .c none (.v (.bool c54)))], []⟩) ?_ (fun T hw => ?_)
    · refine nn ?_
      refine sr hy46 ?_
      refine st ?_
      refine branchG_intro true (fun hc55 => ?_) (fun hc55 => ?_)
      · have hc48 := ift hc55 hc48
        obtain ⟨y47, hy470, hy47, hc48⟩ := bt_some hc48
        (conv => whnf)
        refine sr hy47 ?_
        obtain rfl := some_eq hc48
        refine st ?_
        refine branchG_intro false (fun hc56 => ?_) (fun hc56 => ?_)
        · have hc50 := ift (And.intro hc55 hc56) hc50
          (conv => whnf)
          obtain rfl := some_eq hc50
          have hc52 := ift (And.intro hc55 hc56) hc52
          obtain rfl := some_eq hc52
          have hc54 := ift (And.intro hc55 hc56) hc54
          obtain rfl := some_eq hc54
          refine st ?_
          exact wx (WS.mk (wt_cons (wd_c (web (And.intro hc55 hc56))) wt_nil) wb_nil)
        · have hc50 := ife (And.intro hc55 hc56) hc50
          obtain ⟨y49, hy490, hy49, hc50⟩ := bt_some hc50
          (conv => whnf)
          refine sr hy49 ?_
          obtain rfl := some_eq hc50
          refine st ?_
          refine branchG_intro false (fun hc57 => ?_) (fun hc57 => ?_)
          · have hc52 := ift (And.intro hc55 (And.intro hc56 hc57)) hc52
            (conv => whnf)
            obtain rfl := some_eq hc52
            have hc54 := ift (And.intro hc55 (And.intro hc56 hc57)) hc54
            obtain rfl := some_eq hc54
            refine st ?_
            exact wx (WS.mk (wt_cons (wd_c (web (And.intro hc55 (And.intro hc56 hc57)))) wt_nil) wb_nil)
          · have hc52 := ife (And.intro hc55 (And.intro hc56 hc57)) hc52
            obtain ⟨y51, hy510, hy51, hc52⟩ := bt_some hc52
            (conv => whnf)
            refine sr hy51 ?_
            obtain rfl := some_eq hc52
            refine st ?_
            refine branchG_intro false (fun hc58 => ?_) (fun hc58 => ?_)
            · have hc54 := ift (And.intro hc55 (And.intro hc56 (And.intro hc57 hc58))) hc54
              (conv => whnf)
              obtain rfl := some_eq hc54
              refine st ?_
              exact wx (WS.mk (wt_cons (wd_c (web (And.intro hc55 (And.intro hc56 (And.intro hc57 hc58))))) wt_nil) wb_nil)
            · have hc54 := ife (And.intro hc55 (And.intro hc56 (And.intro hc57 hc58))) hc54
              obtain ⟨y53, hy530, hy53, hc54⟩ := bt_some hc54
              (conv => whnf)
              refine sr hy53 ?_
              obtain rfl := some_eq hc54
              refine st ?_
              exact wx (WS.mk (wt_cons (wd_c (web (And.intro hc55 (And.intro hc56 (And.intro hc57 hc58))))) wt_nil) wb_nil)
      · have hc48 := ife hc55 hc48
        (conv => whnf)
        obtain rfl := some_eq hc48
        have hc50 := ife hc55 hc50
        obtain ⟨y49, hy490, hy49, hc50⟩ := bt_some hc50
        refine sr hy49 ?_
        obtain rfl := some_eq hc50
        refine st ?_
        refine branchG_intro false (fun hc59 => ?_) (fun hc59 => ?_)
        · have hc52 := ift (And.intro hc55 hc59) hc52
          (conv => whnf)
          obtain rfl := some_eq hc52
          have hc54 := ift (And.intro hc55 hc59) hc54
          obtain rfl := some_eq hc54
          refine st ?_
          exact wx (WS.mk (wt_cons (wd_c (web (And.intro hc55 hc59))) wt_nil) wb_nil)
        · have hc52 := ife (And.intro hc55 hc59) hc52
          obtain ⟨y51, hy510, hy51, hc52⟩ := bt_some hc52
          (conv => whnf)
          refine sr hy51 ?_
          obtain rfl := some_eq hc52
          refine st ?_
          refine branchG_intro false (fun hc60 => ?_) (fun hc60 => ?_)
          · have hc54 := ift (And.intro hc55 (And.intro hc59 hc60)) hc54
            (conv => whnf)
            obtain rfl := some_eq hc54
            refine st ?_
            exact wx (WS.mk (wt_cons (wd_c (web (And.intro hc55 (And.intro hc59 hc60)))) wt_nil) wb_nil)
          · have hc54 := ife (And.intro hc55 (And.intro hc59 hc60)) hc54
            obtain ⟨y53, hy530, hy53, hc54⟩ := bt_some hc54
            (conv => whnf)
            refine sr hy53 ?_
            obtain rfl := some_eq hc54
            refine st ?_
            exact wx (WS.mk (wt_cons (wd_c (web (And.intro hc55 (And.intro hc59 hc60)))) wt_nil) wb_nil)
    obtain ⟨r0, hw⟩ := hw
    (conv => whnf)
    refine AWP.weak r0 hw ?_
    obtain rfl := some_eq hF
    refine ns ?_
    exact wx (WS.mk (tc wt_nil) wb_nil)
end Go.Proofs.YtafniolcakiljaaGreatDoor

set_option linter.unusedVariables false
set_option linter.unusedSimpArgs false
set_option maxRecDepth 100000
set_option maxHeartbeats 4000000
namespace Go.Proofs.YtafniolcakiljaaGreatDoor
open Go Go.Am
def lazycref25_ConName (s : ByteArray) : Option (Bool) :=
  if (((s.toList == (ByteArray.mk #[]).toList) || (decide (((s.size : Nat) : Int) > 129))) || (s.toList == (ByteArray.mk #[40]).toList)) = true then
  some false
  else
  lazycref25_ConName_l1 s 0
def lazycref25_ConName.M (s : ByteArray) (r : Bool) : Prop :=
  CallsX Tryz.prog 37 [.c none (.v (.string s))] [] (fun d b => d = .c none (.v (.bool r)) ∧ b = [])
theorem lazycref25_ConName_ok (s : ByteArray) (r : Bool) (hF : lazycref25_ConName s = some r) : lazycref25_ConName.M s r := by
  unfold lazycref25_ConName at hF
  unfold lazycref25_ConName.M
  refine enter tabOk Tryz.func37 rfl (by decide) (Nat.le_of_ble_eq_true rfl) rfl rfl rfl ?_
  refine AWP.seq ?_
  refine ns ?_
  refine AWP.seq ?_
  refine AWP.seq ?_
  refine AWP.cutN (fun T => ∃ r, WS r T ⟨[(0, .c none (.v (.string s))), (14, .c none (.v (.bool (((s.toList == (ByteArray.mk #[]).toList) || (decide (((s.size : Nat) : Int) > 129))) || (s.toList == (ByteArray.mk #[40]).toList)))))], []⟩) ?_ (fun T hw => ?_)
  · refine ns ?_
    refine branchG_intro false (fun hc2 => ?_) (fun hc2 => ?_)
    · (conv => whnf)
      refine st ?_
      exact wx (WS.mk (tc (wt_cons (wd_c (web hc2)) wt_nil)) wb_nil)
    · (conv => whnf)
      refine st ?_
      refine branchG_intro false (fun hc3 => ?_) (fun hc3 => ?_)
      · (conv => whnf)
        refine st ?_
        exact wx (WS.mk (tc (wt_cons (wd_c (web (And.intro hc2 hc3))) wt_nil)) wb_nil)
      · (conv => whnf)
        refine st ?_
        exact wx (WS.mk (tc (wt_cons (wd_c (web (And.intro hc2 hc3))) wt_nil)) wb_nil)
  obtain ⟨r0, hw⟩ := hw
  (conv => whnf)
  refine AWP.weak r0 hw ?_
  refine nw ?_
  refine branch_hF hF (fun hc4 hF => ?_) (fun hc4 hF => ?_)
  · refine AWP.seq ?_
    refine ns ?_
    obtain rfl := some_eq hF
    refine ns ?_
    exact wx (WS.mk (tc wt_nil) wb_nil)
  · refine nw ?_
    refine AWP.seq ?_
    refine AWP.seq ?_
    refine ns ?_
    refine AWP.block ?_
    refine AWP.loop ?_
    refine AWL.weak (rn []) ?_ (lazycref25_ConName_l1_ok s 0 _ hF)
    exact (WS.mk (tc (tc wt_nil)) wb_nil)
end Go.Proofs.YtafniolcakiljaaGreatDoor

set_option linter.unusedVariables false
set_option linter.unusedSimpArgs false
set_option maxRecDepth 100000
set_option maxHeartbeats 4000000
namespace Go.Proofs.YtafniolcakiljaaGreatDoor
open Go Go.Am
def lazycref25_less (a : TExc) (b : TExc) : Option (Bool) :=
  some ((Op.bytesLess a.fCon.toList b.fCon.toList) || ((a.fCon.toList == b.fCon.toList) && (decide (a.fN < b.fN))))
def lazycref25_less.M (a : TExc) (b : TExc) (r : Bool) : Prop :=
  CallsX Tryz.prog 67 [.agg [.v (.string a.fCon), .v (.int .i64 a.fN)], .agg [.v (.string b.fCon), .v (.int .i64 b.fN)]] [] (fun d b => d = .c none (.v (.bool r)) ∧ b = [])
theorem lazycref25_less_ok (a : TExc) (b : TExc) (r : Bool) (hF : lazycref25_less a b = some r) : lazycref25_less.M a b r := by
  unfold lazycref25_less at hF
  unfold lazycref25_less.M
  refine enter tabOk Tryz.func67 rfl (by decide) (Nat.le_of_ble_eq_true rfl) rfl rfl rfl ?_
  refine AWP.seq ?_
  refine ns ?_
  refine AWP.seq ?_
  refine AWP.cutN (fun T => ∃ r, WS r T ⟨[(4, .c none (.v (.bool ((Op.bytesLess a.fCon.toList b.fCon.toList) || ((a.fCon.toList == b.fCon.toList) && (decide (a.fN < b.fN)))))))], []⟩) ?_ (fun T hw => ?_)
  · refine ns ?_
    refine branchG_intro false (fun hc1 => ?_) (fun hc1 => ?_)
    · (conv => whnf)
      refine st ?_
      exact wx (WS.mk (wt_cons (wd_c (web hc1)) wt_nil) wb_nil)
    · (conv => whnf)
      refine st ?_
      refine branchG_intro true (fun hc2 => ?_) (fun hc2 => ?_)
      · (conv => whnf)
        refine st ?_
        exact wx (WS.mk (wt_cons (wd_c (web (And.intro hc1 hc2))) wt_nil) wb_nil)
      · (conv => whnf)
        refine st ?_
        exact wx (WS.mk (wt_cons (wd_c (web (And.intro hc1 hc2))) wt_nil) wb_nil)
  obtain ⟨r0, hw⟩ := hw
  (conv => whnf)
  refine AWP.weak r0 hw ?_
  obtain rfl := some_eq hF
  refine ns ?_
  exact wx (WS.mk (tc wt_nil) wb_nil)
end Go.Proofs.YtafniolcakiljaaGreatDoor

set_option linter.unusedVariables false
set_option linter.unusedSimpArgs false
set_option maxRecDepth 100000
set_option maxHeartbeats 4000000
namespace Go.Proofs.YtafniolcakiljaaGreatDoor
open Go Go.Am
def lazycref25_validSet_l1 (i_3 : Nat) (s : TExcSet) (i_3_s_ : (List TExc)) : Option (Bool) :=
  (match i_3_s_ with
  | x58 :: xs59 =>
  lazycref25_ConName x58.fCon >>= fun r61 =>
  (if (!r61) = true then some true else (if (decide (((i_3 : Nat) : Int) > 0)) = true then (ixI s.fList (IntKind.i64.wrap (((i_3 : Nat) : Int) - 1))) >>= fun x62 =>
  lazycref25_less x62 x58 >>= fun r63 =>
  some (!r63) else some false) >>= fun c64 =>
  some c64) >>= fun c65 =>
  if c65 = true then
  some false
  else
  lazycref25_validSet_l1 (i_3 + 1) s xs59
  | [] =>
  some (decide (((s.fList.length : Nat) : Int) ≤ 16)))
  partial_fixpoint
def lazycref25_validSet_l1.M (i_3 : Nat) (s : TExcSet) (i_3_s_ : (List TExc)) (r : Bool) : Prop :=
  ∀ pre_i_3 : List TExc, s.fList = pre_i_3 ++ i_3_s_ → i_3 = pre_i_3.length → AWL Tryz.prog 48 (Code.sub (bodyOf Tryz.f54) [1, 1, 0, 1, 0, 0]) (Code.cont Tryz.prog 48 (bodyOf Tryz.f54) [1, 1, 0, 1, 0] (endK tab Tryz.f54.results [] (WRes (.c none (.v (.bool r))) []))) ⟨[(1, .ptr 1 0), (3, .c none (.v (.int .i64 ((i_3 : Nat) : Int))))], [(1, [(none, .v (.bool s.fAll)), (none, .sl (s.fList.map TExc.cells))])]⟩
theorem lazycref25_validSet_l1_ok (i_3 : Nat) (s : TExcSet) (i_3_s_ : (List TExc)) : ∀ r, lazycref25_validSet_l1 i_3 s i_3_s_ = some r → lazycref25_validSet_l1.M i_3 s i_3_s_ r := by
  refine lazycref25_validSet_l1.partial_correctness s (fun i_3 i_3_s_ r => lazycref25_validSet_l1.M i_3 s i_3_s_ r) ?_ i_3 i_3_s_
  intro lazycref25_validSet_l1' ih0_lazycref25_validSet_l1 i_3 i_3_s_ r hF
  have ih_lazycref25_validSet_l1 := fun (i_3 : Nat) (_s : TExcSet) (i_3_s_ : (List TExc)) => ih0_lazycref25_validSet_l1 i_3 i_3_s_
  clear ih0_lazycref25_validSet_l1
  unfold lazycref25_validSet_l1.M
  intro pre_i_3 hs_i_3 hk_i_3
  refine AWL.step ?_
  refine AWP.seq ?_
  refine AWP.seq ?_
  refine ns ?_
  intro hlen57
  (try rw [List.length_map] at hlen57)
  (try rw [List.length_map])
  refine st ?_
  refine nw ?_
  refine branch_list hs_i_3 hk_i_3 (fun x58 xs59 hp60 hx60 hl60 => ?_) (fun hp60 => ?_)
  · subst hp60
    refine nw ?_
    refine AWP.seq ?_
    refine AWP.block ?_
    refine AWP.seq ?_
    obtain ⟨r61, hr61, hF⟩ := bind_some hF
    obtain ⟨c65, hc65, hF⟩ := bind_some hF
    refine AWP.cutN (fun T => ∃ r, WS r T ⟨[(1, .ptr 1 0), (3, .c none (.v (.int .i64 ((i_3 : Nat) : Int)))), (43, .c none (.v (.bool c65)))], [(1, [(none, .v (.bool s.fAll)), (none, .sl (s.fList.map TExc.cells))])]⟩) ?_ (fun T hw => ?_)
    · refine nn ?_
      refine Exists.intro 23 (Exists.intro [[], [], [], [], [], [], [], [], [], [], [], [], [], [], [], [], [], [], [], [], [], [], []] (Exists.intro [([17, 18, 19, 20, 21, 22, 23, 24, 25, 26, 27, 28, 29, 30, 31, 32, 33, 34, 35, 36, 37, 38, 39], [], []), ([18, 19, 20, 21, 22, 23, 24, 25, 26, 27, 28, 29, 30, 31, 32, 33, 34, 35, 36, 37, 38, 39], [], []), ([17, 18, 19, 20, 21, 22, 23, 24, 25, 26, 27, 28, 29, 30, 31, 32, 33, 34, 35, 36, 37, 38, 39], [], []), ([20, 21, 22, 23, 24, 25, 26, 27, 28, 29, 30, 31, 32, 33, 34, 35, 36, 37, 38, 39], [], []), ([21, 22, 23, 24, 25, 26, 27, 28, 29, 30, 31, 32, 33, 34, 35, 36, 37, 38, 39], [], []), ([22, 23, 24, 25, 26, 27, 28, 29, 30, 31, 32, 33, 34, 35, 36, 37, 38, 39], [], []), ([23, 24, 25, 26, 27, 28, 29, 30, 31, 32, 33, 34, 35, 36, 37, 38, 39], [], []), ([24, 25, 26, 27, 28, 29, 30, 31, 32, 33, 34, 35, 36, 37, 38, 39], [], []), ([25, 26, 27, 28, 29, 30, 31, 32, 33, 34, 35, 36, 37, 38, 39], [], []), ([26, 27, 28, 29, 30, 31, 32, 33, 34, 35, 36, 37, 38, 39], [], []), ([27, 28, 29, 30, 31, 32, 33, 34, 35, 36, 37, 38, 39], [], []), ([28, 29, 30, 31, 32, 33, 34, 35, 36, 37, 38, 39], [], []), ([29, 30, 31, 32, 33, 34, 35, 36, 37, 38, 39], [], []), ([30, 31, 32, 33, 34, 35, 36, 37, 38, 39], [], []), ([29, 30, 31, 32, 33, 34, 35, 36, 37, 38, 39], [], []), ([29, 30, 32, 33, 34, 35, 36, 37, 38, 39], [], []), ([33, 34, 35, 36, 37, 38, 39], [], []), ([34, 35, 36, 37, 38, 39], [], []), ([29, 30, 31, 32, 33, 34, 35, 36, 37, 38, 39], [], []), ([29, 30, 31, 32, 33, 34, 36, 37, 38, 39], [], []), ([29, 30, 31, 32, 33, 34, 35, 36, 37, 38, 39], [], []), ([29, 30, 31, 32, 33, 34, 38, 39], [], []), ([29, 30, 31, 32, 33, 34, 39], [], [])] (Exists.intro [17, 18, 19, 20, 21, 22, 23, 24, 25, 26, 27, 28, 29, 30, 31, 32, 33, 34, 35, 36, 37, 38, 39] (And.intro (by decide +kernel) ?_))))
      refine dp ?_
      refine dp ?_
      refine dp ?_
      ((repeat (first | ((conv => whnf); (with_reducible refine And.intro ?_ ?_); (focus (first | exact Eq.refl _ | exact trivial | exact Int.natCast_nonneg _ | assumption | exact Nat.le_of_ble_eq_true (Eq.refl true) | decide))))); (conv => whnf); apply Exists.intro; apply Exists.intro; apply And.intro; (focus (((repeat (first | ((conv => whnf); (with_reducible refine And.intro ?_ ?_); (focus (first | exact Eq.refl _ | exact trivial | exact Int.natCast_nonneg _ | assumption | exact Nat.le_of_ble_eq_true (Eq.refl true) | decide))))); (conv => whnf)) <;> (rw [map_get (TExc.cells_eq x58) hx60]) <;> ((repeat (first | ((conv => whnf); (with_reducible refine And.intro ?_ ?_); (focus (first | exact Eq.refl _ | exact trivial | exact Int.natCast_nonneg _ | assumption | exact Nat.le_of_ble_eq_true (Eq.refl true) | decide))))); (conv => whnf)) <;> (exact rfl))); apply And.intro; (focus exact rfl); (conv => whnf))
      refine dp ?_
      refine dp ?_
      ((repeat (first | ((conv => whnf); (with_reducible refine And.intro ?_ ?_); (focus (first | exact Eq.refl _ | exact trivial | exact Int.natCast_nonneg _ | assumption | exact Nat.le_of_ble_eq_true (Eq.refl true) | decide))))); (conv => whnf); apply Exists.intro; apply Exists.intro; apply And.intro; (focus ((conv => whnf); refine And.intro rfl ?_; (conv => whnf); refine CallsX.mono (CallsX.weak (rn []) (lazycref25_ConName_ok x58.fCon _ hr61) rfl (WS.mk (tc wt_nil) wb_nil)) ?_; rintro d b ⟨rfl, rfl⟩; exact And.intro rfl rfl)); apply And.intro; (focus exact rfl); (conv => whnf))
      refine dp ?_
      refine dp ?_
      refine st ?_
      refine branchG_intro false (fun hc66 => ?_) (fun hc66 => ?_)
      · have hc65 := ift hc66 hc65
        (conv => whnf)
        obtain rfl := some_eq hc65
        refine st ?_
        exact wx (WS.mk (tp (tc (wt_cons (wd_c (web hc66)) wt_nil))) (wb_cons rfl (cc (cc wc_nil)) wb_nil))
      · have hc65 := ife hc66 hc65
        obtain ⟨c64, hc64, hc65⟩ := bind_some hc65
        (conv => whnf)
        refine dp ?_
        refine dp ?_
        refine dp ?_
        refine st ?_
        refine branchG_intro true (fun hc67 => ?_) (fun hc67 => ?_)
        · have hc64 := ift (And.intro hc66 hc67) hc64
          obtain ⟨x62, hx620, hx62, hc64⟩ := ix_some hc64
          obtain ⟨r63, hr63, hc64⟩ := bind_some hc64
          (conv => whnf)
          refine dp ?_
          refine dp ?_
          refine dp ?_
          refine dp ?_
          ((repeat (first | ((conv => whnf); (with_reducible refine And.intro ?_ ?_); (focus (first | exact Eq.refl _ | exact trivial | exact Int.natCast_nonneg _ | assumption | exact Nat.le_of_ble_eq_true (Eq.refl true) | decide))))); (conv => whnf); apply Exists.intro; apply Exists.intro; apply And.intro; (focus (((repeat (first | ((conv => whnf); (with_reducible refine And.intro ?_ ?_); (focus (first | exact Eq.refl _ | exact trivial | exact Int.natCast_nonneg _ | assumption | exact Nat.le_of_ble_eq_true (Eq.refl true) | decide))))); (conv => whnf)) <;> (rw [map_getI (TExc.cells_eq x62) hx62]) <;> ((repeat (first | ((conv => whnf); (with_reducible refine And.intro ?_ ?_); (focus (first | exact Eq.refl _ | exact trivial | exact Int.natCast_nonneg _ | assumption | exact Nat.le_of_ble_eq_true (Eq.refl true) | decide))))); (conv => whnf)) <;> (exact rfl))); apply And.intro; (focus exact rfl); (conv => whnf))
          refine dp ?_
          refine dp ?_
          refine dp ?_
          refine dp ?_
          ((repeat (first | ((conv => whnf); (with_reducible refine And.intro ?_ ?_); (focus (first | exact Eq.refl _ | exact trivial | exact Int.natCast_nonneg _ | assumption | exact Nat.le_of_ble_eq_true (Eq.refl true) | decide))))); (conv => whnf); apply Exists.intro; apply Exists.intro; apply And.intro; (focus (((repeat (first | ((conv => whnf); (with_reducible refine And.intro ?_ ?_); (focus (first | exact Eq.refl _ | exact trivial | exact Int.natCast_nonneg _ | assumption | exact Nat.le_of_ble_eq_true (Eq.refl true) | decide))))); (conv => whnf)) <;> (rw [map_get (TExc.cells_eq x58) hx60]) <;> ((repeat (first | ((conv => whnf); (with_reducible refine And.intro ?_ ?_); (focus (first | exact Eq.refl _ | exact trivial | exact Int.natCast_nonneg _ | assumption | exact Nat.le_of_ble_eq_true (Eq.refl true) | decide))))); (conv => whnf)) <;> (exact rfl))); apply And.intro; (focus exact rfl); (conv => whnf))
          refine dp ?_
          refine st ?_
          refine Exists.intro [] ?_
          refine st ?_
          refine cm (CallsX.weak (rn []) (lazycref25_less_ok x62 x58 _ hr63) rfl (WS.mk (wt_cons (wd_agg (lc (lc wl_nil))) (wt_cons (wd_agg (lc (lc wl_nil))) wt_nil)) wb_nil)) ?_
          refine st ?_
          obtain rfl := some_eq hc64
          obtain rfl := some_eq hc65
          refine st ?_
          exact wx (WS.mk (tp (tc (wt_cons (wd_c (web (And.intro hc66 hc67))) wt_nil))) (wb_cons rfl (cc (cc wc_nil)) wb_nil))
        · have hc64 := ife (And.intro hc66 hc67) hc64
          (conv => whnf)
          obtain rfl := some_eq hc64
          obtain rfl := some_eq hc65
          refine st ?_
          exact wx (WS.mk (tp (tc (wt_cons (wd_c (web (And.intro hc66 hc67))) wt_nil))) (wb_cons rfl (cc (cc wc_nil)) wb_nil))
    obtain ⟨r0, hw⟩ := hw
    (conv => whnf)
    refine AWP.weak r0 hw ?_
    refine nw ?_
    refine branch_hF hF (fun hc68 hF => ?_) (fun hc68 hF => ?_)
    · refine AWP.seq ?_
      refine ns ?_
      obtain rfl := some_eq hF
      refine ns ?_
      exact wx (WS.mk (tc wt_nil) wb_nil)
    · refine nw ?_
      refine ns ?_
      refine AWL.weak (rn []) ?_ (ih_lazycref25_validSet_l1 (i_3 + 1) s xs59 _ hF (pre_i_3 ++ [x58]) (by rw [hs_i_3]; simp) (by rw [hk_i_3]; simp))
      exact (WS.mk (tp (wt_cons (wd_c (we_i (wrap_succ hlen57 hl60))) wt_nil)) (wb_cons rfl (cc (cc wc_nil)) wb_nil))
  · subst hp60
    refine nw ?_
    refine AWP.seq ?_
    refine ns ?_
    intro hlen69
    (try rw [List.length_map] at hlen69)
    (try rw [List.length_map])
    refine st ?_
    obtain rfl := some_eq hF
    refine ns ?_
    exact wx (WS.mk (tc wt_nil) wb_nil)
end Go.Proofs.YtafniolcakiljaaGreatDoor

set_option linter.unusedVariables false
set_option linter.unusedSimpArgs false
set_option maxRecDepth 100000
set_option maxHeartbeats 4000000
namespace Go.Proofs.YtafniolcakiljaaGreatDoor
open Go Go.Am
def lazycref25_validSet (s : TExcSet) : Option (Bool) :=
  if s.fAll = true then
  some (((s.fList.length : Nat) : Int) == 0)
  else
  lazycref25_validSet_l1 0 s s.fList
def lazycref25_validSet.M (s : TExcSet) (r : Bool) : Prop :=
  CallsX Tryz.prog 54 [.agg [.v (.bool s.fAll), .sl (s.fList.map TExc.cells)]] [] (fun d b => d = .c none (.v (.bool r)) ∧ b = [])
theorem lazycref25_validSet_ok (s : TExcSet) (r : Bool) (hF : lazycref25_validSet s = some r) : lazycref25_validSet.M s r := by
  unfold lazycref25_validSet at hF
  unfold lazycref25_validSet.M
  refine enter tabOk Tryz.func54 rfl (by decide) (Nat.le_of_ble_eq_true rfl) rfl rfl rfl ?_
  refine AWP.seq ?_
  refine ns ?_
  refine AWP.seq ?_
  refine AWP.seq ?_
  refine ns ?_
  refine nw ?_
  refine branch_hF hF (fun hc3 hF => ?_) (fun hc3 hF => ?_)
  · refine AWP.seq ?_
    refine ns ?_
    intro hlen4
    (try rw [List.length_map] at hlen4)
    (try rw [List.length_map])
    refine st ?_
    obtain rfl := some_eq hF
    refine ns ?_
    exact wx (WS.mk (tc wt_nil) wb_nil)
  · refine nw ?_
    refine AWP.seq ?_
    refine AWP.seq ?_
    refine ns ?_
    refine AWP.block ?_
    refine AWP.loop ?_
    refine AWL.weak (rn []) ?_ (lazycref25_validSet_l1_ok 0 s s.fList _ hF ([]) rfl rfl)
    exact (WS.mk (tp (tc wt_nil)) (wb_cons rfl (cc (cc wc_nil)) wb_nil))
end Go.Proofs.YtafniolcakiljaaGreatDoor

set_option linter.unusedVariables false
set_option linter.unusedSimpArgs false
set_option maxRecDepth 100000
set_option maxHeartbeats 4000000
namespace Go.Proofs.YtafniolcakiljaaGreatDoor
open Go Go.Am
def lazycref25_formed_k2 (toArray : TValue) (x_83 : Bool) : Option (Bool) :=
  if x_83 = true then
  some ((((toArray.fName.toList == (ByteArray.mk #[]).toList) && (toArray.fN == 0)) && (((toArray.fKids.length : Nat) : Int) == 0)) && ((!toArray.fSet.fAll) && (((toArray.fSet.fList.length : Nat) : Int) == 0)))
  else
  if (toArray.fOp == 5) = true then
  (if (((toArray.fName.toList == (ByteArray.mk #[]).toList) && (toArray.fN == 0)) && (((toArray.fKids.length : Nat) : Int) == 0)) = true then lazycref25_validSet toArray.fSet >>= fun r68 =>
  some r68 else some false) >>= fun c69 =>
  some c69
  else
  some false
def lazycref25_formed_k2.M (toArray : TValue) (x_83 : Bool) (r : Bool) : Prop :=
  toArray.fKids.length ≤ maxLen → AWP Tryz.prog 124 (Code.sub (bodyOf Tryz.f39) [1, 1, 1, 0, 1, 0, 1, 1, 1, 1, 1, 1, 1]) (Code.cont Tryz.prog 124 (bodyOf Tryz.f39) [1, 1, 1, 0, 1, 0, 1, 1, 1, 1, 1, 1, 1] (endK tab Tryz.f39.results [] (WRes (.c none (.v (.bool r))) []))) ⟨[(1, .ptr 1 0), (4, .c none (.v (.bool ((!toArray.fSet.fAll) && (((toArray.fSet.fList.length : Nat) : Int) == 0))))), (31, .c none (.v (.int .i64 toArray.fOp))), (83, .c none (.v (.bool x_83)))], [(1, [(none, .v (.int .i64 toArray.fOp)), (none, .v (.string toArray.fName)), (none, .v (.int .i64 toArray.fN)), (none, .sl (toArray.fKids.map TValue.cells)), (none, .v (.bool toArray.fSet.fAll)), (none, .sl (toArray.fSet.fList.map TExc.cells))])]⟩
theorem lazycref25_formed_k2_ok (toArray : TValue) (x_83 : Bool) (r : Bool) (hF : lazycref25_formed_k2 toArray x_83 = some r) : lazycref25_formed_k2.M toArray x_83 r := by
  unfold lazycref25_formed_k2 at hF
  unfold lazycref25_formed_k2.M
  intro hlen38
  refine nw ?_
  refine branch_hF hF (fun hc61 hF => ?_) (fun hc61 hF => ?_)
  · refine AWP.seq ?_
    refine AWP.cutN (fun T => ∃ r, WS r T ⟨[(2, .c none (.v (.bool ((((toArray.fName.toList == (ByteArray.mk #[]).toList) && (toArray.fN == 0)) && (((toArray.fKids.length : Nat) : Int) == 0)) && ((!toArray.fSet.fAll) && (((toArray.fSet.fList.length : Nat) : Int) == 0))))))], []⟩) ?_ (fun T hw => ?_)
    · refine ns ?_
      refine branchG_intro true (fun hc63 => ?_) (fun hc63 => ?_)
      · (conv => whnf)
        refine st ?_
        refine branchG_intro true (fun hc64 => ?_) (fun hc64 => ?_)
        · (conv => whnf)
          refine st ?_
          intro hlen62
          (try rw [List.length_map] at hlen62)
          (try rw [List.length_map])
          refine st ?_
          refine branchG_intro true (fun hc65 => ?_) (fun hc65 => ?_)
          · (conv => whnf)
            refine st ?_
            exact wx (WS.mk (wt_cons (wd_c (web (And.intro hc63 (And.intro hc64 hc65)))) wt_nil) wb_nil)
          · (conv => whnf)
            refine st ?_
            exact wx (WS.mk (wt_cons (wd_c (web (And.intro hc63 (And.intro hc64 hc65)))) wt_nil) wb_nil)
        · (conv => whnf)
          refine st ?_
          exact wx (WS.mk (wt_cons (wd_c (web (And.intro hc63 hc64))) wt_nil) wb_nil)
      · (conv => whnf)
        refine st ?_
        exact wx (WS.mk (wt_cons (wd_c (web hc63)) wt_nil) wb_nil)
    obtain ⟨r0, hw⟩ := hw
    (conv => whnf)
    refine AWP.weak r0 hw ?_
    obtain rfl := some_eq hF
    refine ns ?_
    exact wx (WS.mk (tc wt_nil) wb_nil)
  · refine AWP.seq ?_
    refine ns ?_
    refine nw ?_
    refine branch_hF hF (fun hc66 hF => ?_) (fun hc66 hF => ?_)
    · refine AWP.seq ?_
      obtain ⟨c69, hc69, hF⟩ := bind_some hF
      refine AWP.cutN (fun T => ∃ r, WS r T ⟨[(2, .c none (.v (.bool c69)))], []⟩) ?_ (fun T hw => ?_)
      · refine ns ?_
        refine branchG_intro true (fun hc70 => ?_) (fun hc70 => ?_)
        · (conv => whnf)
          refine st ?_
          refine branchG_intro true (fun hc71 => ?_) (fun hc71 => ?_)
          · (conv => whnf)
            refine st ?_
            intro hlen67
            (try rw [List.length_map] at hlen67)
            (try rw [List.length_map])
            refine st ?_
            refine branchG_intro true (fun hc72 => ?_) (fun hc72 => ?_)
            · have hc69 := ift (And.intro hc70 (And.intro hc71 hc72)) hc69
              obtain ⟨r68, hr68, hc69⟩ := bind_some hc69
              (conv => whnf)
              refine st ?_
              refine Exists.intro [] ?_
              refine st ?_
              refine cm (CallsX.weak (rn []) (lazycref25_validSet_ok toArray.fSet _ hr68) rfl (WS.mk (wt_cons (wd_agg (lc (lc wl_nil))) wt_nil) wb_nil)) ?_
              refine st ?_
              obtain rfl := some_eq hc69
              refine st ?_
              exact wx (WS.mk (wt_cons (wd_c (web (And.intro hc70 (And.intro hc71 hc72)))) wt_nil) wb_nil)
            · have hc69 := ife (And.intro hc70 (And.intro hc71 hc72)) hc69
              (conv => whnf)
              obtain rfl := some_eq hc69
              refine st ?_
              exact wx (WS.mk (wt_cons (wd_c (web (And.intro hc70 (And.intro hc71 hc72)))) wt_nil) wb_nil)
          · (conv => whnf)
            have hc69 := ife (And.intro hc70 hc71) hc69
            obtain rfl := some_eq hc69
            refine st ?_
            exact wx (WS.mk (wt_cons (wd_c (web (And.intro hc70 hc71))) wt_nil) wb_nil)
        · (conv => whnf)
          have hc69 := ife hc70 hc69
          obtain rfl := some_eq hc69
          refine st ?_
          exact wx (WS.mk (wt_cons (wd_c (web hc70)) wt_nil) wb_nil)
      obtain ⟨r0, hw⟩ := hw
      (conv => whnf)
      refine AWP.weak r0 hw ?_
      obtain rfl := some_eq hF
      refine ns ?_
      exact wx (WS.mk (tc wt_nil) wb_nil)
    · refine nw ?_
      refine AWP.seq ?_
      refine ns ?_
      obtain rfl := some_eq hF
      refine ns ?_
      exact wx (WS.mk (tc wt_nil) wb_nil)
end Go.Proofs.YtafniolcakiljaaGreatDoor

set_option linter.unusedVariables false
set_option linter.unusedSimpArgs false
set_option maxRecDepth 100000
set_option maxHeartbeats 4000000
namespace Go.Proofs.YtafniolcakiljaaGreatDoor
open Go Go.Am
mutual
def lazycref25_formed (toArray : TValue) : Option (Bool) :=
  lazycref25_formed_l1 0 toArray toArray.fKids
  partial_fixpoint
def lazycref25_formed_l1 (x_3 : Nat) (toArray : TValue) (x_3_s_ : (List TValue)) : Option (Bool) :=
  (match x_3_s_ with
  | x39 :: xs40 =>
  lazycref25_formed x39 >>= fun r42 =>
  if (!r42) = true then
  some false
  else
  lazycref25_formed_l1 (x_3 + 1) toArray xs40
  | [] =>
  if (toArray.fOp == 1) = true then
  some (((toArray.fName.toList == (ByteArray.mk #[]).toList) && (((toArray.fKids.length : Nat) : Int) == 0)) && ((!toArray.fSet.fAll) && (((toArray.fSet.fList.length : Nat) : Int) == 0)))
  else
  if (toArray.fOp == 2) = true then
  some (((((toArray.fName.toList == (ByteArray.mk #[]).toList) && (((toArray.fKids.length : Nat) : Int) == 0)) && ((!toArray.fSet.fAll) && (((toArray.fSet.fList.length : Nat) : Int) == 0))) && (decide (toArray.fN ≥ 0))) && (decide (toArray.fN ≤ 255)))
  else
  if (toArray.fOp == 3) = true then
  lazycref25_ConName toArray.fName >>= fun r57 =>
  some ((r57 && (toArray.fN == 0)) && ((!toArray.fSet.fAll) && (((toArray.fSet.fList.length : Nat) : Int) == 0)))
  else
  if (toArray.fOp == 4) = true then
  lazycref25_formed_k2 toArray (toArray.fOp == 4)
  else
  lazycref25_formed_k2 toArray (toArray.fOp == 6))
  partial_fixpoint
end
def lazycref25_formed.M (toArray : TValue) (r : Bool) : Prop :=
  CallsX Tryz.prog 39 [.agg [.v (.int .i64 toArray.fOp), .v (.string toArray.fName), .v (.int .i64 toArray.fN), .sl (toArray.fKids.map TValue.cells), .v (.bool toArray.fSet.fAll), .sl (toArray.fSet.fList.map TExc.cells)]] [] (fun d b => d = .c none (.v (.bool r)) ∧ b = [])
def lazycref25_formed_l1.M (x_3 : Nat) (toArray : TValue) (x_3_s_ : (List TValue)) (r : Bool) : Prop :=
  ∀ pre_x_3 : List TValue, toArray.fKids = pre_x_3 ++ x_3_s_ → x_3 = pre_x_3.length → AWL Tryz.prog 124 (Code.sub (bodyOf Tryz.f39) [1, 0, 1, 0, 0]) (Code.cont Tryz.prog 124 (bodyOf Tryz.f39) [1, 0, 1, 0] (endK tab Tryz.f39.results [] (WRes (.c none (.v (.bool r))) []))) ⟨[(1, .ptr 1 0), (3, .c none (.v (.int .i64 ((x_3 : Nat) : Int))))], [(1, [(none, .v (.int .i64 toArray.fOp)), (none, .v (.string toArray.fName)), (none, .v (.int .i64 toArray.fN)), (none, .sl (toArray.fKids.map TValue.cells)), (none, .v (.bool toArray.fSet.fAll)), (none, .sl (toArray.fSet.fList.map TExc.cells))])]⟩
theorem lazycref25_formed_all : (∀ (toArray : TValue), ∀ r, lazycref25_formed toArray = some r → lazycref25_formed.M toArray r) ∧ (∀ (x_3 : Nat) (toArray : TValue) (x_3_s_ : (List TValue)), ∀ r, lazycref25_formed_l1 x_3 toArray x_3_s_ = some r → lazycref25_formed_l1.M x_3 toArray x_3_s_ r) := by
  refine lazycref25_formed.mutual_partial_correctness lazycref25_formed.M lazycref25_formed_l1.M ?_ ?_
  · intro lazycref25_formed_l1' ih_lazycref25_formed_l1 toArray r hF
    unfold lazycref25_formed.M
    refine enter tabOk Tryz.func39 rfl (by decide) (Nat.le_of_ble_eq_true rfl) rfl rfl rfl ?_
    refine AWP.seq ?_
    refine ns ?_
    refine AWP.seq ?_
    refine AWP.seq ?_
    refine ns ?_
    refine AWP.block ?_
    refine AWP.loop ?_
    refine AWL.weak (rn []) ?_ (ih_lazycref25_formed_l1 0 toArray toArray.fKids _ hF ([]) rfl rfl)
    exact (WS.mk (tp (tc wt_nil)) (wb_cons rfl (cc (cc (cc (cc (cc (cc wc_nil)))))) wb_nil))
  · intro lazycref25_formed' lazycref25_formed_l1' ih_lazycref25_formed ih_lazycref25_formed_l1 x_3 toArray x_3_s_ r hF
    unfold lazycref25_formed_l1.M
    intro pre_x_3 hs_x_3 hk_x_3
    refine AWL.step ?_
    refine AWP.seq ?_
    refine AWP.seq ?_
    refine ns ?_
    intro hlen38
    (try rw [List.length_map] at hlen38)
    (try rw [List.length_map])
    refine st ?_
    refine nw ?_
    refine branch_list hs_x_3 hk_x_3 (fun x39 xs40 hp41 hx41 hl41 => ?_) (fun hp41 => ?_)
    · subst hp41
      refine nw ?_
      refine AWP.seq ?_
      refine AWP.block ?_
      refine AWP.seq ?_
      obtain ⟨r42, hr42, hF⟩ := bind_some hF
      refine nn ?_
      refine sr (map_get (f := TValue.cells) (TValue.cells_eq x39) hx41) ?_
      refine st ?_
      refine Exists.intro [] ?_
      refine st ?_
      refine cm (CallsX.weak (rn []) (ih_lazycref25_formed x39 _ hr42) rfl (WS.mk (wt_cons (wd_agg (lc (lc (lc (lc (lc (lc wl_nil))))))) wt_nil) wb_nil)) ?_
      refine st ?_
      refine nw ?_
      refine branch_hF hF (fun hc43 hF => ?_) (fun hc43 hF => ?_)
      · refine AWP.seq ?_
        refine ns ?_
        obtain rfl := some_eq hF
        refine ns ?_
        exact wx (WS.mk (tc wt_nil) wb_nil)
      · refine nw ?_
        refine ns ?_
        refine AWL.weak (rn []) ?_ (ih_lazycref25_formed_l1 (x_3 + 1) toArray xs40 _ hF (pre_x_3 ++ [x39]) (by rw [hs_x_3]; simp) (by rw [hk_x_3]; simp))
        exact (WS.mk (tp (wt_cons (wd_c (we_i (wrap_succ hlen38 hl41))) wt_nil)) (wb_cons rfl (cc (cc (cc (cc (cc (cc wc_nil)))))) wb_nil))
    · subst hp41
      refine nw ?_
      refine AWP.seq ?_
      refine AWP.cutN (fun T => ∃ r, WS r T ⟨[(1, .ptr 1 0), (4, .c none (.v (.bool ((!toArray.fSet.fAll) && (((toArray.fSet.fList.length : Nat) : Int) == 0)))))], [(1, [(none, .v (.int .i64 toArray.fOp)), (none, .v (.string toArray.fName)), (none, .v (.int .i64 toArray.fN)), (none, .sl (toArray.fKids.map TValue.cells)), (none, .v (.bool toArray.fSet.fAll)), (none, .sl (toArray.fSet.fList.map TExc.cells))])]⟩) ?_ (fun T hw => ?_)
      · refine ns ?_
        refine branchG_intro true (fun hc45 => ?_) (fun hc45 => ?_)
        · (conv => whnf)
          refine st ?_
          intro hlen44
          (try rw [List.length_map] at hlen44)
          (try rw [List.length_map])
          refine st ?_
          exact wx (WS.mk (tp (wt_cons (wd_c (web hc45)) wt_nil)) (wb_cons rfl (cc (cc (cc (cc (cc (cc wc_nil)))))) wb_nil))
        · (conv => whnf)
          refine st ?_
          exact wx (WS.mk (tp (wt_cons (wd_c (web hc45)) wt_nil)) (wb_cons rfl (cc (cc (cc (cc (cc (cc wc_nil)))))) wb_nil))
      obtain ⟨r0, hw⟩ := hw
      (conv => whnf)
      refine AWP.weak r0 hw ?_
      refine AWP.seq ?_
      refine AWP.seq ?_
      refine ns ?_
      refine AWP.block ?_
      refine AWP.seq ?_
      refine ns ?_
      refine nw ?_
      refine branch_hF hF (fun hc46 hF => ?_) (fun hc46 hF => ?_)
      · refine AWP.seq ?_
        refine AWP.cutN (fun T => ∃ r, WS r T ⟨[(2, .c none (.v (.bool (((toArray.fName.toList == (ByteArray.mk #[]).toList) && (((toArray.fKids.length : Nat) : Int) == 0)) && ((!toArray.fSet.fAll) && (((toArray.fSet.fList.length : Nat) : Int) == 0))))))], []⟩) ?_ (fun T hw => ?_)
        · refine ns ?_
          refine branchG_intro true (fun hc48 => ?_) (fun hc48 => ?_)
          · (conv => whnf)
            refine st ?_
            intro hlen47
            (try rw [List.length_map] at hlen47)
            (try rw [List.length_map])
            refine st ?_
            refine branchG_intro true (fun hc49 => ?_) (fun hc49 => ?_)
            · (conv => whnf)
              refine st ?_
              exact wx (WS.mk (wt_cons (wd_c (web (And.intro hc48 hc49))) wt_nil) wb_nil)
            · (conv => whnf)
              refine st ?_
              exact wx (WS.mk (wt_cons (wd_c (web (And.intro hc48 hc49))) wt_nil) wb_nil)
          · (conv => whnf)
            refine st ?_
            exact wx (WS.mk (wt_cons (wd_c (web hc48)) wt_nil) wb_nil)
        obtain ⟨r0, hw⟩ := hw
        (conv => whnf)
        refine AWP.weak r0 hw ?_
        obtain rfl := some_eq hF
        refine ns ?_
        exact wx (WS.mk (tc wt_nil) wb_nil)
      · refine AWP.seq ?_
        refine ns ?_
        refine nw ?_
        refine branch_hF hF (fun hc50 hF => ?_) (fun hc50 hF => ?_)
        · refine AWP.seq ?_
          refine AWP.cutN (fun T => ∃ r, WS r T ⟨[(2, .c none (.v (.bool (((((toArray.fName.toList == (ByteArray.mk #[]).toList) && (((toArray.fKids.length : Nat) : Int) == 0)) && ((!toArray.fSet.fAll) && (((toArray.fSet.fList.length : Nat) : Int) == 0))) && (decide (toArray.fN ≥ 0))) && (decide (toArray.fN ≤ 255))))))], []⟩) ?_ (fun T hw => ?_)
          · refine ns ?_
            refine branchG_intro true (fun hc52 => ?_) (fun hc52 => ?_)
            · (conv => whnf)
              refine st ?_
              intro hlen51
              (try rw [List.length_map] at hlen51)
              (try rw [List.length_map])
              refine st ?_
              refine branchG_intro true (fun hc53 => ?_) (fun hc53 => ?_)
              · (conv => whnf)
                refine st ?_
                refine branchG_intro true (fun hc54 => ?_) (fun hc54 => ?_)
                · (conv => whnf)
                  refine st ?_
                  refine branchG_intro true (fun hc55 => ?_) (fun hc55 => ?_)
                  · (conv => whnf)
                    refine st ?_
                    exact wx (WS.mk (wt_cons (wd_c (web (And.intro hc52 (And.intro hc53 (And.intro hc54 hc55))))) wt_nil) wb_nil)
                  · (conv => whnf)
                    refine st ?_
                    exact wx (WS.mk (wt_cons (wd_c (web (And.intro hc52 (And.intro hc53 (And.intro hc54 hc55))))) wt_nil) wb_nil)
                · (conv => whnf)
                  refine st ?_
                  exact wx (WS.mk (wt_cons (wd_c (web (And.intro hc52 (And.intro hc53 hc54)))) wt_nil) wb_nil)
              · (conv => whnf)
                refine st ?_
                exact wx (WS.mk (wt_cons (wd_c (web (And.intro hc52 hc53))) wt_nil) wb_nil)
            · (conv => whnf)
              refine st ?_
              exact wx (WS.mk (wt_cons (wd_c (web hc52)) wt_nil) wb_nil)
          obtain ⟨r0, hw⟩ := hw
          (conv => whnf)
          refine AWP.weak r0 hw ?_
          obtain rfl := some_eq hF
          refine ns ?_
          exact wx (WS.mk (tc wt_nil) wb_nil)
        · refine AWP.seq ?_
          refine ns ?_
          refine nw ?_
          refine branch_hF hF (fun hc56 hF => ?_) (fun hc56 hF => ?_)
          · refine AWP.seq ?_
            obtain ⟨r57, hr57, hF⟩ := bind_some hF
            refine AWP.cutN (fun T => ∃ r, WS r T ⟨[(2, .c none (.v (.bool ((r57 && (toArray.fN == 0)) && ((!toArray.fSet.fAll) && (((toArray.fSet.fList.length : Nat) : Int) == 0))))))], []⟩) ?_ (fun T hw => ?_)
            · refine ns ?_
              refine Exists.intro [] ?_
              refine st ?_
              refine cm (CallsX.weak (rn []) (lazycref25_ConName_ok toArray.fName _ hr57) rfl (WS.mk (tc wt_nil) wb_nil)) ?_
              refine st ?_
              refine branchG_intro true (fun hc58 => ?_) (fun hc58 => ?_)
              · (conv => whnf)
                refine st ?_
                refine branchG_intro true (fun hc59 => ?_) (fun hc59 => ?_)
                · (conv => whnf)
                  refine st ?_
                  exact wx (WS.mk (wt_cons (wd_c (web (And.intro hc58 hc59))) wt_nil) wb_nil)
                · (conv => whnf)
                  refine st ?_
                  exact wx (WS.mk (wt_cons (wd_c (web (And.intro hc58 hc59))) wt_nil) wb_nil)
              · (conv => whnf)
                refine st ?_
                exact wx (WS.mk (wt_cons (wd_c (web hc58)) wt_nil) wb_nil)
            obtain ⟨r0, hw⟩ := hw
            (conv => whnf)
            refine AWP.weak r0 hw ?_
            obtain rfl := some_eq hF
            refine ns ?_
            exact wx (WS.mk (tc wt_nil) wb_nil)
          · refine AWP.seq ?_
            refine AWP.seq ?_
            refine ns ?_
            refine nw ?_
            refine branch_hF hF (fun hc73 hF => ?_) (fun hc73 hF => ?_)
            · refine nw ?_
              refine AWP.weak (rn []) ?_ (lazycref25_formed_k2_ok toArray (toArray.fOp == 4) _ hF hlen38)
              exact (WS.mk (tp (tc (tc (tc wt_nil)))) (wb_cons rfl (cc (cc (cc (cc (cc (cc wc_nil)))))) wb_nil))
            · refine ns ?_
              refine AWP.weak (rn []) ?_ (lazycref25_formed_k2_ok toArray (toArray.fOp == 6) _ hF hlen38)
              exact (WS.mk (tp (tc (tc (tc wt_nil)))) (wb_cons rfl (cc (cc (cc (cc (cc (cc wc_nil)))))) wb_nil))
theorem lazycref25_formed_ok : ∀ (toArray : TValue), ∀ r, lazycref25_formed toArray = some r → lazycref25_formed.M toArray r := lazycref25_formed_all.1
theorem lazycref25_formed_l1_ok : ∀ (x_3 : Nat) (toArray : TValue) (x_3_s_ : (List TValue)), ∀ r, lazycref25_formed_l1 x_3 toArray x_3_s_ = some r → lazycref25_formed_l1.M x_3 toArray x_3_s_ r := lazycref25_formed_all.2
end Go.Proofs.YtafniolcakiljaaGreatDoor

set_option linter.unusedVariables false
set_option linter.unusedSimpArgs false
set_option maxRecDepth 100000
set_option maxHeartbeats 4000000
namespace Go.Proofs.YtafniolcakiljaaGreatDoor
open Go Go.Am
def lazycref25_Check (v : TValue) : Option (Int) :=
  lazycref25_Nesting v >>= fun r3 =>
  if (decide (r3 > 1000)) = true then
  some 4
  else
  lazycref25_Nodes v >>= fun r7 =>
  if (decide (r7 > 60000)) = true then
  some 3
  else
  lazycref25_formed v >>= fun r9 =>
  if (!r9) = true then
  some 1
  else
  some 0
def lazycref25_Check.M (v : TValue) (r : Int) : Prop :=
  CallsX Tryz.prog 18 [.agg [.v (.int .i64 v.fOp), .v (.string v.fName), .v (.int .i64 v.fN), .sl (v.fKids.map TValue.cells), .v (.bool v.fSet.fAll), .sl (v.fSet.fList.map TExc.cells)]] [] (fun d b => d = .c none (.v (.int .i64 r)) ∧ b = [])
theorem lazycref25_Check_ok (v : TValue) (r : Int) (hF : lazycref25_Check v = some r) : lazycref25_Check.M v r := by
  unfold lazycref25_Check at hF
  unfold lazycref25_Check.M
  refine enter tabOk Tryz.func18 rfl (by decide) (Nat.le_of_ble_eq_true rfl) rfl rfl rfl ?_
  refine AWP.seq ?_
  refine ns ?_
  refine AWP.seq ?_
  refine AWP.seq ?_
  obtain ⟨r3, hr3, hF⟩ := bind_some hF
  refine ns ?_
  refine Exists.intro [] ?_
  refine st ?_
  refine cm (CallsX.weak (rn []) (lazycref25_Nesting_ok v _ hr3) rfl (WS.mk (wt_cons (wd_agg (lc (lc (lc (lc (lc (lc wl_nil))))))) wt_nil) wb_nil)) ?_
  refine st ?_
  refine nw ?_
  refine branch_hF hF (fun hc4 hF => ?_) (fun hc4 hF => ?_)
  · refine AWP.seq ?_
    refine ns ?_
    obtain rfl := some_eq hF
    refine ns ?_
    exact wx (WS.mk (tc wt_nil) wb_nil)
  · refine nw ?_
    refine AWP.seq ?_
    refine AWP.seq ?_
    obtain ⟨r7, hr7, hF⟩ := bind_some hF
    refine ns ?_
    refine Exists.intro [] ?_
    refine st ?_
    refine cm (CallsX.weak (rn []) (lazycref25_Nodes_ok v _ hr7) rfl (WS.mk (wt_cons (wd_agg (lc (lc (lc (lc (lc (lc wl_nil))))))) wt_nil) wb_nil)) ?_
    refine st ?_
    refine nw ?_
    refine branch_hF hF (fun hc8 hF => ?_) (fun hc8 hF => ?_)
    · refine AWP.seq ?_
      refine ns ?_
      obtain rfl := some_eq hF
      refine ns ?_
      exact wx (WS.mk (tc wt_nil) wb_nil)
    · refine nw ?_
      refine AWP.seq ?_
      refine AWP.seq ?_
      obtain ⟨r9, hr9, hF⟩ := bind_some hF
      refine ns ?_
      refine Exists.intro [] ?_
      refine st ?_
      refine cm (CallsX.weak (rn []) (lazycref25_formed_ok v _ hr9) rfl (WS.mk (wt_cons (wd_agg (lc (lc (lc (lc (lc (lc wl_nil))))))) wt_nil) wb_nil)) ?_
      refine st ?_
      refine nw ?_
      refine branch_hF hF (fun hc10 hF => ?_) (fun hc10 hF => ?_)
      · refine AWP.seq ?_
        refine ns ?_
        obtain rfl := some_eq hF
        refine ns ?_
        exact wx (WS.mk (tc wt_nil) wb_nil)
      · refine nw ?_
        refine AWP.seq ?_
        refine ns ?_
        obtain rfl := some_eq hF
        refine ns ?_
        exact wx (WS.mk (tc wt_nil) wb_nil)
end Go.Proofs.YtafniolcakiljaaGreatDoor

set_option linter.unusedVariables false
set_option linter.unusedSimpArgs false
set_option maxRecDepth 100000
set_option maxHeartbeats 4000000
namespace Go.Proofs.YtafniolcakiljaaGreatDoor
open Go Go.Am
def lazycref25_words_l1 (x_3 : (List ByteArray)) (x_4 : Nat) (toArray : TValue) (x_4_s_ : (List TExc)) : Option ((List ByteArray)) :=
  (match x_4_s_ with
  | x115 :: xs116 =>
  strconv_Itoa x115.fN >>= fun r118 =>
  guardP ((x_3.length + ([x115.fCon, r118]).length) * 16 ≤ 140737488355328) >>= fun _ =>
  lazycref25_words_l1 (x_3 ++ ([x115.fCon, r118])) (x_4 + 1) toArray xs116
  | [] =>
  guardP ((x_3.length + ([(ByteArray.mk #[125])]).length) * 16 ≤ 140737488355328) >>= fun _ =>
  some (x_3 ++ ([(ByteArray.mk #[125])])))
  partial_fixpoint
def lazycref25_words_l1.M (x_3 : (List ByteArray)) (x_4 : Nat) (toArray : TValue) (x_4_s_ : (List TExc)) (r : (List ByteArray)) : Prop :=
  ∀ pre_x_4 : List TExc, toArray.fSet.fList = pre_x_4 ++ x_4_s_ → x_4 = pre_x_4.length → AWL Tryz.prog 96 (Code.sub (bodyOf Tryz.f21) [1, 1, 0, 1, 0, 1, 1, 1, 1, 1, 1, 1, 1, 1, 0, 1, 1, 0, 1, 0, 0]) (Code.cont Tryz.prog 96 (bodyOf Tryz.f21) [1, 1, 0, 1, 0, 1, 1, 1, 1, 1, 1, 1, 1, 1, 0, 1, 1, 0, 1, 0] (endK tab Tryz.f21.results [] (WRes (.c (some (0, 9)) (.sl (r.map c_S))) []))) ⟨[(1, .ptr 1 0), (3, .c (some (3, 9)) (.sl (x_3.map c_S))), (4, .c none (.v (.int .i64 ((x_4 : Nat) : Int))))], [(1, [(none, .v (.int .i64 toArray.fOp)), (none, .v (.string toArray.fName)), (none, .v (.int .i64 toArray.fN)), (none, .sl (toArray.fKids.map TValue.cells)), (none, .v (.bool toArray.fSet.fAll)), (none, .sl (toArray.fSet.fList.map TExc.cells))])]⟩
theorem lazycref25_words_l1_ok (x_3 : (List ByteArray)) (x_4 : Nat) (toArray : TValue) (x_4_s_ : (List TExc)) : ∀ r, lazycref25_words_l1 x_3 x_4 toArray x_4_s_ = some r → lazycref25_words_l1.M x_3 x_4 toArray x_4_s_ r := by
  refine lazycref25_words_l1.partial_correctness toArray (fun x_3 x_4 x_4_s_ r => lazycref25_words_l1.M x_3 x_4 toArray x_4_s_ r) ?_ x_3 x_4 x_4_s_
  intro lazycref25_words_l1' ih0_lazycref25_words_l1 x_3 x_4 x_4_s_ r hF
  have ih_lazycref25_words_l1 := fun (x_3 : (List ByteArray)) (x_4 : Nat) (_toArray : TValue) (x_4_s_ : (List TExc)) => ih0_lazycref25_words_l1 x_3 x_4 x_4_s_
  clear ih0_lazycref25_words_l1
  unfold lazycref25_words_l1.M
  intro pre_x_4 hs_x_4 hk_x_4
  refine AWL.step ?_
  refine AWP.seq ?_
  refine AWP.seq ?_
  refine ns ?_
  intro hlen114
  (try rw [List.length_map] at hlen114)
  (try rw [List.length_map])
  refine st ?_
  refine nw ?_
  refine branch_list hs_x_4 hk_x_4 (fun x115 xs116 hp117 hx117 hl117 => ?_) (fun hp117 => ?_)
  · subst hp117
    refine nw ?_
    refine AWP.seq ?_
    refine AWP.block ?_
    obtain ⟨r118, hr118, hF⟩ := bind_some hF
    obtain ⟨hg119, hF⟩ := guard_some hF
    refine nn ?_
    refine Exists.intro 17 (Exists.intro [[], [], [], [], [], [], [], [], [], [], [], [], [], [], [], [], []] (Exists.intro [([45, 46, 47, 48, 49, 50, 51, 52, 53, 54, 55, 56, 57, 58, 59, 60, 61], [], []), ([45, 46, 47, 48, 49, 50, 51, 52, 53, 54, 55, 56, 57, 58, 59, 60, 61], [], []), ([45, 47, 48, 49, 50, 51, 52, 53, 54, 55, 56, 57, 58, 59, 60, 61], [], []), ([45, 48, 49, 50, 51, 52, 53, 54, 55, 56, 57, 58, 59, 60, 61], [], []), ([45, 46, 47, 48, 49, 50, 51, 52, 53, 54, 55, 56, 57, 58, 59, 60, 61], [], []), ([45, 50, 51, 52, 53, 54, 55, 56, 57, 58, 59, 60, 61], [], []), ([45, 51, 52, 53, 54, 55, 56, 57, 58, 59, 60, 61], [], []), ([45, 52, 53, 54, 55, 56, 57, 58, 59, 60, 61], [], []), ([45, 46, 47, 48, 49, 50, 51, 52, 53, 54, 55, 56, 57, 58, 59, 60, 61], [], []), ([45, 46, 47, 48, 49, 50, 51, 52, 54, 55, 56, 57, 58, 59, 60, 61], [], []), ([45, 46, 47, 48, 49, 50, 51, 52, 55, 56, 57, 58, 59, 60, 61], [], []), ([45, 46, 47, 48, 49, 50, 51, 52, 53, 54, 55, 56, 57, 58, 59, 60, 61], [], []), ([45, 46, 47, 48, 49, 50, 51, 52, 57, 58, 59, 60, 61], [], []), ([45, 46, 47, 48, 49, 50, 51, 52, 58, 59, 60, 61], [], []), ([45, 46, 47, 48, 49, 50, 51, 52, 59, 60, 61], [], []), ([45, 46, 47, 48, 49, 50, 51, 52, 60, 61], [], []), ([45, 61], [], [])] (Exists.intro [45, 46, 47, 48, 49, 50, 51, 52, 53, 54, 55, 56, 57, 58, 59, 60, 61] (And.intro (by decide +kernel) ?_))))
    refine dp ?_
    refine dp ?_
    refine dp ?_
    refine dp ?_
    refine dp ?_
    ((repeat (first | ((conv => whnf); (with_reducible refine And.intro ?_ ?_); (focus (first | exact Eq.refl _ | exact trivial | exact Int.natCast_nonneg _ | assumption | exact Nat.le_of_ble_eq_true (Eq.refl true) | decide))))); (conv => whnf); apply Exists.intro; apply Exists.intro; apply And.intro; (focus (((repeat (first | ((conv => whnf); (with_reducible refine And.intro ?_ ?_); (focus (first | exact Eq.refl _ | exact trivial | exact Int.natCast_nonneg _ | assumption | exact Nat.le_of_ble_eq_true (Eq.refl true) | decide))))); (conv => whnf)) <;> (rw [map_get (TExc.cells_eq x115) hx117]) <;> ((repeat (first | ((conv => whnf); (with_reducible refine And.intro ?_ ?_); (focus (first | exact Eq.refl _ | exact trivial | exact Int.natCast_nonneg _ | assumption | exact Nat.le_of_ble_eq_true (Eq.refl true) | decide))))); (conv => whnf)) <;> (exact rfl))); apply And.intro; (focus exact rfl); (conv => whnf))
    refine dp ?_
    refine dp ?_
    refine dp ?_
    refine dp ?_
    refine dp ?_
    refine dp ?_
    ((repeat (first | ((conv => whnf); (with_reducible refine And.intro ?_ ?_); (focus (first | exact Eq.refl _ | exact trivial | exact Int.natCast_nonneg _ | assumption | exact Nat.le_of_ble_eq_true (Eq.refl true) | decide))))); (conv => whnf); apply Exists.intro; apply Exists.intro; apply And.intro; (focus (((repeat (first | ((conv => whnf); (with_reducible refine And.intro ?_ ?_); (focus (first | exact Eq.refl _ | exact trivial | exact Int.natCast_nonneg _ | assumption | exact Nat.le_of_ble_eq_true (Eq.refl true) | decide))))); (conv => whnf)) <;> (rw [map_get (TExc.cells_eq x115) hx117]) <;> ((repeat (first | ((conv => whnf); (with_reducible refine And.intro ?_ ?_); (focus (first | exact Eq.refl _ | exact trivial | exact Int.natCast_nonneg _ | assumption | exact Nat.le_of_ble_eq_true (Eq.refl true) | decide))))); (conv => whnf)) <;> (exact rfl))); apply And.intro; (focus exact rfl); (conv => whnf))
    refine dp ?_
    refine dp ?_
    ((repeat (first | ((conv => whnf); (with_reducible refine And.intro ?_ ?_); (focus (first | exact Eq.refl _ | exact trivial | exact Int.natCast_nonneg _ | assumption | exact Nat.le_of_ble_eq_true (Eq.refl true) | decide))))); (conv => whnf); apply Exists.intro; apply Exists.intro; apply And.intro; (focus ((conv => whnf); refine And.intro rfl ?_; (conv => whnf); refine CallsX.mono (CallsX.weak (rn []) (strconv_Itoa_ok x115.fN _ hr118) rfl (WS.mk (tc wt_nil) wb_nil)) ?_; rintro d b ⟨rfl, rfl⟩; exact And.intro rfl rfl)); apply And.intro; (focus exact rfl); (conv => whnf))
    ((repeat (first | ((conv => whnf); (with_reducible refine And.intro ?_ ?_); (focus (first | exact Eq.refl _ | exact trivial | exact Int.natCast_nonneg _ | assumption | exact Nat.le_of_ble_eq_true (Eq.refl true) | decide))))); (conv => whnf); apply Exists.intro; apply Exists.intro; apply And.intro; (focus (((repeat (first | ((conv => whnf); (with_reducible refine And.intro ?_ ?_); (focus (first | exact Eq.refl _ | exact trivial | exact Int.natCast_nonneg _ | assumption | exact Nat.le_of_ble_eq_true (Eq.refl true) | decide))))); (conv => whnf)) <;> (refine Exists.intro _ (And.intro (we_rows (f := c_S) (lc wl_nil) (we_rows (f := c_S) (lc wl_nil) (we_rows_nil (f := c_S)))) ?_)) <;> ((repeat (first | ((conv => whnf); (with_reducible refine And.intro ?_ ?_); (focus (first | exact Eq.refl _ | exact trivial | exact Int.natCast_nonneg _ | assumption | exact Nat.le_of_ble_eq_true (Eq.refl true) | decide))))); (conv => whnf)) <;> (exact rfl))); apply And.intro; (focus exact rfl); (conv => whnf))
    refine st ?_
    refine And.intro (by first | exact rows_map _ (fun x => c_S_len x) | exact rows_nil) (And.intro (by first | exact rows_map _ (fun x => c_S_len x) | exact rows_nil) (And.intro (by have h := hg119; simp only [List.length_map, List.length_append, List.length_cons, List.length_nil, Nat.zero_add] at h ⊢; first | exact h | (unfold maxLen; omega) | omega) (And.intro (by have h := hg119; simp only [List.length_map, List.length_append, List.length_cons, List.length_nil, Nat.zero_add] at h ⊢; first | exact h | (unfold maxLen; omega) | omega) (Exists.intro _ (And.intro (WE.refl _) ?_)))))
    rw [← List.map_append]
    refine st ?_
    refine ns ?_
    refine AWL.weak (rn [(62, 3)]) ?_ (ih_lazycref25_words_l1 (x_3 ++ ([x115.fCon, r118])) (x_4 + 1) toArray xs116 _ hF (pre_x_4 ++ [x115]) (by rw [hs_x_4]; simp) (by rw [hk_x_4]; simp))
    exact (WS.mk (tp (wt_cons (wd_own rfl (WE.refl _)) (wt_cons (wd_c (we_i (wrap_succ hlen114 hl117))) wt_nil))) (wb_cons rfl (cc (cc (cc (cc (cc (cc wc_nil)))))) wb_nil))
  · subst hp117
    refine nw ?_
    refine AWP.seq ?_
    obtain ⟨hg120, hF⟩ := guard_some hF
    refine ns ?_
    refine Exists.intro _ (And.intro (we_rows (f := c_S) (lc wl_nil) (we_rows_nil (f := c_S))) ?_)
    refine st ?_
    refine And.intro (by first | exact rows_map _ (fun x => c_S_len x) | exact rows_nil) (And.intro (by first | exact rows_map _ (fun x => c_S_len x) | exact rows_nil) (And.intro (by have h := hg120; simp only [List.length_map, List.length_append, List.length_cons, List.length_nil, Nat.zero_add] at h ⊢; first | exact h | (unfold maxLen; omega) | omega) (And.intro (by have h := hg120; simp only [List.length_map, List.length_append, List.length_cons, List.length_nil, Nat.zero_add] at h ⊢; first | exact h | (unfold maxLen; omega) | omega) (Exists.intro _ (And.intro (WE.refl _) ?_)))))
    rw [← List.map_append]
    refine st ?_
    obtain rfl := some_eq hF
    refine ns ?_
    exact Exists.intro (rn [(65, 0)]) (WS.mk (wt_cons (wd_own rfl (WE.refl _)) wt_nil) wb_nil)
end Go.Proofs.YtafniolcakiljaaGreatDoor

set_option linter.unusedVariables false
set_option linter.unusedSimpArgs false
set_option maxRecDepth 100000
set_option maxHeartbeats 4000000
namespace Go.Proofs.YtafniolcakiljaaGreatDoor
open Go Go.Am
mutual
def lazycref25_words (toArray : TValue) : Option ((List ByteArray)) :=
  if (toArray.fOp == 1) = true then
  strconv_Itoa toArray.fN >>= fun r62 =>
  some ([r62])
  else
  if (toArray.fOp == 2) = true then
  strconv_Itoa toArray.fN >>= fun r64 =>
  guardP ((((ByteArray.mk #[35]).size + r64.size : Nat) : Int) ≤ IntKind.i64.max) >>= fun _ =>
  some ([((ByteArray.mk #[35]) ++ r64)])
  else
  if (toArray.fOp == 4) = true then
  some ([(ByteArray.mk #[60, 102, 117, 110, 62])])
  else
  if (toArray.fOp == 6) = true then
  some ([(ByteArray.mk #[63])])
  else
  if (toArray.fOp == 5) = true then
  if toArray.fSet.fAll = true then
  some ([(ByteArray.mk #[33, 42])])
  else
  guardP ((([] : List ByteArray).length + ([(ByteArray.mk #[33, 123])]).length) * 16 ≤ 140737488355328) >>= fun _ =>
  lazycref25_words_l1 (([] : List ByteArray) ++ ([(ByteArray.mk #[33, 123])])) 0 toArray toArray.fSet.fList
  else
  if (((toArray.fKids.length : Nat) : Int) == 0) = true then
  some ([toArray.fName])
  else
  guardP ((([] : List ByteArray).length + ([(ByteArray.mk #[40]), toArray.fName]).length) * 16 ≤ 140737488355328) >>= fun _ =>
  lazycref25_words_l2 (([] : List ByteArray) ++ ([(ByteArray.mk #[40]), toArray.fName])) 0 toArray toArray.fKids
  partial_fixpoint
def lazycref25_words_l2 (x_3 : (List ByteArray)) (x_5 : Nat) (toArray : TValue) (x_5_s_ : (List TValue)) : Option ((List ByteArray)) :=
  (match x_5_s_ with
  | x164 :: xs165 =>
  lazycref25_words x164 >>= fun r167 =>
  guardP ((x_3.length + r167.length) * 16 ≤ 140737488355328) >>= fun _ =>
  lazycref25_words_l2 (x_3 ++ r167) (x_5 + 1) toArray xs165
  | [] =>
  guardP ((x_3.length + ([(ByteArray.mk #[41])]).length) * 16 ≤ 140737488355328) >>= fun _ =>
  some (x_3 ++ ([(ByteArray.mk #[41])])))
  partial_fixpoint
end
def lazycref25_words.M (toArray : TValue) (r : (List ByteArray)) : Prop :=
  CallsX Tryz.prog 21 [.agg [.v (.int .i64 toArray.fOp), .v (.string toArray.fName), .v (.int .i64 toArray.fN), .sl (toArray.fKids.map TValue.cells), .v (.bool toArray.fSet.fAll), .sl (toArray.fSet.fList.map TExc.cells)]] [] (fun d b => d = .c (some (0, 9)) (.sl (r.map c_S)) ∧ b = [])
def lazycref25_words_l2.M (x_3 : (List ByteArray)) (x_5 : Nat) (toArray : TValue) (x_5_s_ : (List TValue)) (r : (List ByteArray)) : Prop :=
  ∀ pre_x_5 : List TValue, toArray.fKids = pre_x_5 ++ x_5_s_ → x_5 = pre_x_5.length → toArray.fKids.length ≤ maxLen → AWL Tryz.prog 96 (Code.sub (bodyOf Tryz.f21) [1, 1, 1, 1, 1, 0, 1, 0, 0]) (Code.cont Tryz.prog 96 (bodyOf Tryz.f21) [1, 1, 1, 1, 1, 0, 1, 0] (endK tab Tryz.f21.results [] (WRes (.c (some (0, 9)) (.sl (r.map c_S))) []))) ⟨[(1, .ptr 1 0), (3, .c (some (3, 9)) (.sl (x_3.map c_S))), (5, .c none (.v (.int .i64 ((x_5 : Nat) : Int))))], [(1, [(none, .v (.int .i64 toArray.fOp)), (none, .v (.string toArray.fName)), (none, .v (.int .i64 toArray.fN)), (none, .sl (toArray.fKids.map TValue.cells)), (none, .v (.bool toArray.fSet.fAll)), (none, .sl (toArray.fSet.fList.map TExc.cells))])]⟩
theorem lazycref25_words_all : (∀ (toArray : TValue), ∀ r, lazycref25_words toArray = some r → lazycref25_words.M toArray r) ∧ (∀ (x_3 : (List ByteArray)) (x_5 : Nat) (toArray : TValue) (x_5_s_ : (List TValue)), ∀ r, lazycref25_words_l2 x_3 x_5 toArray x_5_s_ = some r → lazycref25_words_l2.M x_3 x_5 toArray x_5_s_ r) := by
  refine lazycref25_words.mutual_partial_correctness lazycref25_words.M lazycref25_words_l2.M ?_ ?_
  · intro lazycref25_words_l2' ih_lazycref25_words_l2 toArray r hF
    unfold lazycref25_words.M
    refine enter tabOk Tryz.func21 rfl (by decide) (Nat.le_of_ble_eq_true rfl) rfl rfl rfl ?_
    refine AWP.seq ?_
    refine ns ?_
    refine AWP.seq ?_
    refine ns ?_
    refine Exists.intro _ (And.intro (we_rows_nil (f := c_S)) ?_)
    refine st ?_
    refine AWP.seq ?_
    refine AWP.seq ?_
    refine ns ?_
    refine AWP.block ?_
    refine AWP.seq ?_
    refine ns ?_
    refine nw ?_
    refine branch_hF hF (fun hc61 hF => ?_) (fun hc61 hF => ?_)
    · refine AWP.seq ?_
      obtain ⟨r62, hr62, hF⟩ := bind_some hF
      refine ns ?_
      refine Exists.intro [] ?_
      refine st ?_
      refine cm (CallsX.weak (rn []) (strconv_Itoa_ok toArray.fN _ hr62) rfl (WS.mk (tc wt_nil) wb_nil)) ?_
      refine st ?_
      refine Exists.intro _ (And.intro (we_rows (f := c_S) (lc wl_nil) (we_rows_nil (f := c_S))) ?_)
      refine st ?_
      obtain rfl := some_eq hF
      refine ns ?_
      exact Exists.intro (rn [(14, 0)]) (WS.mk (wt_cons (wd_own rfl (WE.refl _)) wt_nil) wb_nil)
    · refine AWP.seq ?_
      refine ns ?_
      refine nw ?_
      refine branch_hF hF (fun hc63 hF => ?_) (fun hc63 hF => ?_)
      · refine AWP.seq ?_
        obtain ⟨r64, hr64, hF⟩ := bind_some hF
        obtain ⟨hg65, hF⟩ := guard_some hF
        refine ns ?_
        refine Exists.intro [] ?_
        refine st ?_
        refine cm (CallsX.weak (rn []) (strconv_Itoa_ok toArray.fN _ hr64) rfl (WS.mk (tc wt_nil) wb_nil)) ?_
        refine st ?_
        refine Exists.intro _ (And.intro (we_rows (f := c_S) (lc wl_nil) (we_rows_nil (f := c_S))) ?_)
        refine st ?_
        obtain rfl := some_eq hF
        refine ns ?_
        exact Exists.intro (rn [(21, 0)]) (WS.mk (wt_cons (wd_own rfl (WE.refl _)) wt_nil) wb_nil)
      · refine AWP.seq ?_
        refine ns ?_
        refine nw ?_
        refine branch_hF hF (fun hc66 hF => ?_) (fun hc66 hF => ?_)
        · refine AWP.seq ?_
          refine ns ?_
          refine Exists.intro _ (And.intro (we_rows (f := c_S) (lc wl_nil) (we_rows_nil (f := c_S))) ?_)
          refine st ?_
          obtain rfl := some_eq hF
          refine ns ?_
          exact Exists.intro (rn [(24, 0)]) (WS.mk (wt_cons (wd_own rfl (WE.refl _)) wt_nil) wb_nil)
        · refine AWP.seq ?_
          refine ns ?_
          refine nw ?_
          refine branch_hF hF (fun hc67 hF => ?_) (fun hc67 hF => ?_)
          · refine AWP.seq ?_
            refine ns ?_
            refine Exists.intro _ (And.intro (we_rows (f := c_S) (lc wl_nil) (we_rows_nil (f := c_S))) ?_)
            refine st ?_
            obtain rfl := some_eq hF
            refine ns ?_
            exact Exists.intro (rn [(27, 0)]) (WS.mk (wt_cons (wd_own rfl (WE.refl _)) wt_nil) wb_nil)
          · refine AWP.seq ?_
            refine ns ?_
            refine nw ?_
            refine branch_hF hF (fun hc68 hF => ?_) (fun hc68 hF => ?_)
            · refine AWP.seq ?_
              refine AWP.seq ?_
              refine ns ?_
              refine nw ?_
              refine branch_hF hF (fun hc70 hF => ?_) (fun hc70 hF => ?_)
              · refine AWP.seq ?_
                refine ns ?_
                refine Exists.intro _ (And.intro (we_rows (f := c_S) (lc wl_nil) (we_rows_nil (f := c_S))) ?_)
                refine st ?_
                obtain rfl := some_eq hF
                refine ns ?_
                exact Exists.intro (rn [(33, 0)]) (WS.mk (wt_cons (wd_own rfl (WE.refl _)) wt_nil) wb_nil)
              · refine nw ?_
                refine AWP.seq ?_
                obtain ⟨hg71, hF⟩ := guard_some hF
                refine ns ?_
                refine Exists.intro _ (And.intro (we_rows (f := c_S) (lc wl_nil) (we_rows_nil (f := c_S))) ?_)
                (repeat (first | ((conv => whnf); (with_reducible refine And.intro ?_ ?_); (focus (first | exact Eq.refl _ | exact trivial | exact Int.natCast_nonneg _ | assumption | exact Nat.le_of_ble_eq_true (Eq.refl true) | decide))) | ((with_reducible refine And.intro ?_ ?_); (focus (first | exact (by first | exact rows_map _ (fun x => c_S_len x) | exact rows_nil) | exact (by have h := hg71; simp only [List.length_map, List.length_append, List.length_cons, List.length_nil, Nat.zero_add] at h ⊢; first | exact h | (unfold maxLen; omega) | omega))))))
                refine Exists.intro _ (And.intro (WE.refl _) ?_)
                rw [← List.map_append]
                refine st ?_
                refine AWP.seq ?_
                refine AWP.seq ?_
                refine ns ?_
                refine AWP.block ?_
                refine AWP.loop ?_
                refine AWL.weak (rn [(36, 3)]) ?_ (lazycref25_words_l1_ok (([] : List ByteArray) ++ ([(ByteArray.mk #[33, 123])])) 0 toArray toArray.fSet.fList _ hF ([]) rfl rfl)
                exact (WS.mk (tp (wt_cons (wd_own rfl (WE.refl _)) (tc wt_nil))) (wb_cons rfl (cc (cc (cc (cc (cc (cc wc_nil)))))) wb_nil))
            · refine nw ?_
              refine AWP.seq ?_
              refine AWP.seq ?_
              refine ns ?_
              intro hlen123
              (try rw [List.length_map] at hlen123)
              (try rw [List.length_map])
              refine st ?_
              refine nw ?_
              refine branch_hF hF (fun hc124 hF => ?_) (fun hc124 hF => ?_)
              · refine AWP.seq ?_
                refine ns ?_
                refine Exists.intro _ (And.intro (we_rows (f := c_S) (lc wl_nil) (we_rows_nil (f := c_S))) ?_)
                refine st ?_
                obtain rfl := some_eq hF
                refine ns ?_
                exact Exists.intro (rn [(72, 0)]) (WS.mk (wt_cons (wd_own rfl (WE.refl _)) wt_nil) wb_nil)
              · refine nw ?_
                refine AWP.seq ?_
                obtain ⟨hg125, hF⟩ := guard_some hF
                refine ns ?_
                refine Exists.intro _ (And.intro (we_rows (f := c_S) (lc wl_nil) (we_rows (f := c_S) (lc wl_nil) (we_rows_nil (f := c_S)))) ?_)
                (repeat (first | ((conv => whnf); (with_reducible refine And.intro ?_ ?_); (focus (first | exact Eq.refl _ | exact trivial | exact Int.natCast_nonneg _ | assumption | exact Nat.le_of_ble_eq_true (Eq.refl true) | decide))) | ((with_reducible refine And.intro ?_ ?_); (focus (first | exact (by first | exact rows_map _ (fun x => c_S_len x) | exact rows_nil) | exact (by have h := hg125; simp only [List.length_map, List.length_append, List.length_cons, List.length_nil, Nat.zero_add] at h ⊢; first | exact h | (unfold maxLen; omega) | omega))))))
                refine Exists.intro _ (And.intro (WE.refl _) ?_)
                rw [← List.map_append]
                refine st ?_
                refine AWP.seq ?_
                refine AWP.seq ?_
                refine ns ?_
                refine AWP.block ?_
                refine AWP.loop ?_
                refine AWL.weak (rn [(77, 3)]) ?_ (ih_lazycref25_words_l2 (([] : List ByteArray) ++ ([(ByteArray.mk #[40]), toArray.fName])) 0 toArray toArray.fKids _ hF ([]) rfl rfl hlen123)
                exact (WS.mk (tp (wt_cons (wd_own rfl (WE.refl _)) (tc wt_nil))) (wb_cons rfl (cc (cc (cc (cc (cc (cc wc_nil)))))) wb_nil))
  · intro lazycref25_words' lazycref25_words_l2' ih_lazycref25_words ih_lazycref25_words_l2 x_3 x_5 toArray x_5_s_ r hF
    unfold lazycref25_words_l2.M
    intro pre_x_5 hs_x_5 hk_x_5 hlen123
    refine AWL.step ?_
    refine AWP.seq ?_
    refine AWP.seq ?_
    refine ns ?_
    intro hlen163
    (try rw [List.length_map] at hlen163)
    (try rw [List.length_map])
    refine st ?_
    refine nw ?_
    refine branch_list hs_x_5 hk_x_5 (fun x164 xs165 hp166 hx166 hl166 => ?_) (fun hp166 => ?_)
    · subst hp166
      refine nw ?_
      refine AWP.seq ?_
      refine AWP.block ?_
      obtain ⟨r167, hr167, hF⟩ := bind_some hF
      obtain ⟨hg168, hF⟩ := guard_some hF
      refine nn ?_
      refine sr (map_get (f := TValue.cells) (TValue.cells_eq x164) hx166) ?_
      refine st ?_
      refine Exists.intro [] ?_
      refine st ?_
      refine cm (CallsX.weak (rn []) (ih_lazycref25_words x164 _ hr167) rfl (WS.mk (wt_cons (wd_agg (lc (lc (lc (lc (lc (lc wl_nil))))))) wt_nil) wb_nil)) ?_
      refine st ?_
      refine And.intro (by first | exact rows_map _ (fun x => c_S_len x) | exact rows_nil) (And.intro (by first | exact rows_map _ (fun x => c_S_len x) | exact rows_nil) (And.intro (by have h := hg168; simp only [List.length_map, List.length_append, List.length_cons, List.length_nil, Nat.zero_add] at h ⊢; first | exact h | (unfold maxLen; omega) | omega) (And.intro (by have h := hg168; simp only [List.length_map, List.length_append, List.length_cons, List.length_nil, Nat.zero_add] at h ⊢; first | exact h | (unfold maxLen; omega) | omega) (Exists.intro _ (And.intro (WE.refl _) ?_)))))
      rw [← List.map_append]
      refine st ?_
      refine ns ?_
      refine AWL.weak (rn [(92, 3)]) ?_ (ih_lazycref25_words_l2 (x_3 ++ r167) (x_5 + 1) toArray xs165 _ hF (pre_x_5 ++ [x164]) (by rw [hs_x_5]; simp) (by rw [hk_x_5]; simp) hlen163)
      exact (WS.mk (tp (wt_cons (wd_own rfl (WE.refl _)) (wt_cons (wd_c (we_i (wrap_succ hlen163 hl166))) wt_nil))) (wb_cons rfl (cc (cc (cc (cc (cc (cc wc_nil)))))) wb_nil))
    · subst hp166
      refine nw ?_
      refine AWP.seq ?_
      obtain ⟨hg169, hF⟩ := guard_some hF
      refine ns ?_
      refine Exists.intro _ (And.intro (we_rows (f := c_S) (lc wl_nil) (we_rows_nil (f := c_S))) ?_)
      refine st ?_
      refine And.intro (by first | exact rows_map _ (fun x => c_S_len x) | exact rows_nil) (And.intro (by first | exact rows_map _ (fun x => c_S_len x) | exact rows_nil) (And.intro (by have h := hg169; simp only [List.length_map, List.length_append, List.length_cons, List.length_nil, Nat.zero_add] at h ⊢; first | exact h | (unfold maxLen; omega) | omega) (And.intro (by have h := hg169; simp only [List.length_map, List.length_append, List.length_cons, List.length_nil, Nat.zero_add] at h ⊢; first | exact h | (unfold maxLen; omega) | omega) (Exists.intro _ (And.intro (WE.refl _) ?_)))))
      rw [← List.map_append]
      refine st ?_
      obtain rfl := some_eq hF
      refine ns ?_
      exact Exists.intro (rn [(95, 0)]) (WS.mk (wt_cons (wd_own rfl (WE.refl _)) wt_nil) wb_nil)
theorem lazycref25_words_ok : ∀ (toArray : TValue), ∀ r, lazycref25_words toArray = some r → lazycref25_words.M toArray r := lazycref25_words_all.1
theorem lazycref25_words_l2_ok : ∀ (x_3 : (List ByteArray)) (x_5 : Nat) (toArray : TValue) (x_5_s_ : (List TValue)), ∀ r, lazycref25_words_l2 x_3 x_5 toArray x_5_s_ = some r → lazycref25_words_l2.M x_3 x_5 toArray x_5_s_ r := lazycref25_words_all.2
end Go.Proofs.YtafniolcakiljaaGreatDoor

set_option linter.unusedVariables false
set_option linter.unusedSimpArgs false
set_option maxRecDepth 100000
set_option maxHeartbeats 4000000
namespace Go.Proofs.YtafniolcakiljaaGreatDoor
open Go Go.Am
def lazycref25_Print (v : TValue) : Option (ByteArray) :=
  lazycref25_Check v >>= fun r3 =>
  if (r3 != 0) = true then
  some (ByteArray.mk #[])
  else
  lazycref25_words v >>= fun r5 =>
  strings_Join r5 (ByteArray.mk #[32]) >>= fun r6 =>
  some r6
def lazycref25_Print.M (v : TValue) (r : ByteArray) : Prop :=
  CallsX Tryz.prog 9 [.agg [.v (.int .i64 v.fOp), .v (.string v.fName), .v (.int .i64 v.fN), .sl (v.fKids.map TValue.cells), .v (.bool v.fSet.fAll), .sl (v.fSet.fList.map TExc.cells)]] [] (fun d b => d = .c none (.v (.string r)) ∧ b = [])
theorem lazycref25_Print_ok (v : TValue) (r : ByteArray) (hF : lazycref25_Print v = some r) : lazycref25_Print.M v r := by
  unfold lazycref25_Print at hF
  unfold lazycref25_Print.M
  refine enter tabOk Tryz.func9 rfl (by decide) (Nat.le_of_ble_eq_true rfl) rfl rfl rfl ?_
  refine AWP.seq ?_
  refine ns ?_
  refine AWP.seq ?_
  refine AWP.seq ?_
  obtain ⟨r3, hr3, hF⟩ := bind_some hF
  refine ns ?_
  refine Exists.intro [] ?_
  refine st ?_
  refine cm (CallsX.weak (rn []) (lazycref25_Check_ok v _ hr3) rfl (WS.mk (wt_cons (wd_agg (lc (lc (lc (lc (lc (lc wl_nil))))))) wt_nil) wb_nil)) ?_
  refine st ?_
  refine nw ?_
  refine branch_hF hF (fun hc4 hF => ?_) (fun hc4 hF => ?_)
  · refine AWP.seq ?_
    refine ns ?_
    obtain rfl := some_eq hF
    refine ns ?_
    exact wx (WS.mk (tc wt_nil) wb_nil)
  · refine nw ?_
    refine AWP.seq ?_
    obtain ⟨r5, hr5, hF⟩ := bind_some hF
    obtain ⟨r6, hr6, hF⟩ := bind_some hF
    refine ns ?_
    refine Exists.intro [] ?_
    refine st ?_
    refine cm (CallsX.weak (rn []) (lazycref25_words_ok v _ hr5) rfl (WS.mk (wt_cons (wd_agg (lc (lc (lc (lc (lc (lc wl_nil))))))) wt_nil) wb_nil)) ?_
    refine st ?_
    refine Exists.intro [7] ?_
    refine st ?_
    refine cm (CallsX.weak (rn []) (strings_Join_ok r5 (ByteArray.mk #[32]) _ hr6) rfl (WS.mk (tc (tc wt_nil)) wb_nil)) ?_
    refine st ?_
    obtain rfl := some_eq hF
    refine ns ?_
    exact wx (WS.mk (tc wt_nil) wb_nil)
end Go.Proofs.YtafniolcakiljaaGreatDoor

set_option linter.unusedVariables false
set_option linter.unusedSimpArgs false
set_option maxRecDepth 100000
set_option maxHeartbeats 4000000
namespace Go.Proofs.YtafniolcakiljaaGreatDoor
open Go Go.Am
def lazycref25_decimal_l1 (s : ByteArray) (n_3 : Int) (i_4 : Nat) : Option (Int) :=
  if (decide (((i_4 : Nat) : Int) < ((s.size : Nat) : Int))) = true then
  (btI s ((i_4 : Nat) : Int)) >>= fun y44 =>
  (if (decide (((y44.toNat : Nat) : Int) ≥ 48)) = true then (btI s ((i_4 : Nat) : Int)) >>= fun y45 =>
  some (decide (((y45.toNat : Nat) : Int) ≤ 57)) else some false) >>= fun c46 =>
  if c46 = true then
  (btI s ((i_4 : Nat) : Int)) >>= fun y49 =>
  guardP (i_4 + 1 ≤ 9223372036854775807) >>= fun _ =>
  lazycref25_decimal_l1 s (IntKind.i64.wrap ((IntKind.i64.wrap (n_3 * 10)) - (IntKind.i64.wrap (IntKind.u8.wrap (((y49.toNat : Nat) : Int) - 48))))) (i_4 + 1)
  else
  guardP (i_4 + 1 ≤ 9223372036854775807) >>= fun _ =>
  lazycref25_decimal_l1 s n_3 (i_4 + 1)
  else
  (if (decide (((s.size : Nat) : Int) > 0)) = true then (btI s 0) >>= fun y52 =>
  some (((y52.toNat : Nat) : Int) == 45) else some false) >>= fun c53 =>
  if c53 = true then
  some n_3
  else
  some (IntKind.i64.wrap (0 - n_3))
  partial_fixpoint
def lazycref25_decimal_l1.M (s : ByteArray) (n_3 : Int) (i_4 : Nat) (r : Int) : Prop :=
  AWL Tryz.prog 40 (Code.sub (bodyOf Tryz.f53) [1, 1, 0, 1, 0, 0]) (Code.cont Tryz.prog 40 (bodyOf Tryz.f53) [1, 1, 0, 1, 0] (endK tab Tryz.f53.results [] (WRes (.c none (.v (.int .i64 r))) []))) ⟨[(0, .c none (.v (.string s))), (3, .c none (.v (.int .i64 n_3))), (4, .c none (.v (.int .i64 ((i_4 : Nat) : Int))))], []⟩
theorem lazycref25_decimal_l1_ok (s : ByteArray) (n_3 : Int) (i_4 : Nat) : ∀ r, lazycref25_decimal_l1 s n_3 i_4 = some r → lazycref25_decimal_l1.M s n_3 i_4 r := by
  refine lazycref25_decimal_l1.partial_correctness s (fun n_3 i_4 r => lazycref25_decimal_l1.M s n_3 i_4 r) ?_ n_3 i_4
  intro lazycref25_decimal_l1' ih0_lazycref25_decimal_l1 n_3 i_4 r hF
  have ih_lazycref25_decimal_l1 := fun (_s : ByteArray) (n_3 : Int) (i_4 : Nat) => ih0_lazycref25_decimal_l1 n_3 i_4
  clear ih0_lazycref25_decimal_l1
  unfold lazycref25_decimal_l1.M
  refine AWL.step ?_
  refine AWP.seq ?_
  refine AWP.seq ?_
  refine ns ?_
  refine nw ?_
  refine branch_hF hF (fun hc43 hF => ?_) (fun hc43 hF => ?_)
  · refine nw ?_
    refine AWP.seq ?_
    refine AWP.block ?_
    refine AWP.seq ?_
    obtain ⟨y44, hy440, hy44, hF⟩ := bt_some hF
    obtain ⟨c46, hc46, hF⟩ := bind_some hF
    refine AWP.cutN (fun T => ∃ r, WS r T ⟨[(0, .c none (.v (.string s))), (3, .c none (.v (.int .i64 n_3))), (4, .c none (.v (.int .i64 ((i_4 : Nat) : Int)))), (20, .c none (.v (.bool c46)))], []⟩) ?_ (fun T hw => ?_)
    · refine nn ?_
      refine sr hy44 ?_
      refine st ?_
      refine branchG_intro true (fun hc47 => ?_) (fun hc47 => ?_)
      · have hc46 := ift hc47 hc46
        obtain ⟨y45, hy450, hy45, hc46⟩ := bt_some hc46
        (conv => whnf)
        refine sr hy45 ?_
        obtain rfl := some_eq hc46
        refine st ?_
        exact wx (WS.mk (tc (tc (tc (wt_cons (wd_c (web hc47)) wt_nil)))) wb_nil)
      · have hc46 := ife hc47 hc46
        (conv => whnf)
        obtain rfl := some_eq hc46
        refine st ?_
        exact wx (WS.mk (tc (tc (tc (wt_cons (wd_c (web hc47)) wt_nil)))) wb_nil)
    obtain ⟨r0, hw⟩ := hw
    (conv => whnf)
    refine AWP.weak r0 hw ?_
    refine nw ?_
    refine branch_hF hF (fun hc48 hF => ?_) (fun hc48 hF => ?_)
    · obtain ⟨y49, hy490, hy49, hF⟩ := bt_some hF
      refine nn ?_
      refine sr hy49 ?_
      refine st ?_
      obtain ⟨hg50, hF⟩ := guard_some hF
      refine ns ?_
      refine AWL.weak (rn []) ?_ (ih_lazycref25_decimal_l1 s (IntKind.i64.wrap ((IntKind.i64.wrap (n_3 * 10)) - (IntKind.i64.wrap (IntKind.u8.wrap (((y49.toNat : Nat) : Int) - 48))))) (i_4 + 1) _ hF)
      exact (WS.mk (tc (tc (wt_cons (wd_c (we_i (wrap_nat hg50))) wt_nil))) wb_nil)
    · refine nw ?_
      obtain ⟨hg51, hF⟩ := guard_some hF
      refine ns ?_
      refine AWL.weak (rn []) ?_ (ih_lazycref25_decimal_l1 s n_3 (i_4 + 1) _ hF)
      exact (WS.mk (tc (tc (wt_cons (wd_c (we_i (wrap_nat hg51))) wt_nil))) wb_nil)
  · refine nw ?_
    refine AWP.seq ?_
    refine AWP.seq ?_
    obtain ⟨c53, hc53, hF⟩ := bind_some hF
    refine AWP.cutN (fun T => ∃ r, WS r T ⟨[(3, .c none (.v (.int .i64 n_3))), (36, .c none (.v (.bool c53)))], []⟩) ?_ (fun T hw => ?_)
    · refine ns ?_
      refine branchG_intro true (fun hc54 => ?_) (fun hc54 => ?_)
      · have hc53 := ift hc54 hc53
        obtain ⟨y52, hy520, hy52, hc53⟩ := bt_some hc53
        (conv => whnf)
        refine sr hy52 ?_
        obtain rfl := some_eq hc53
        refine st ?_
        exact wx (WS.mk (tc (wt_cons (wd_c (web hc54)) wt_nil)) wb_nil)
      · have hc53 := ife hc54 hc53
        (conv => whnf)
        obtain rfl := some_eq hc53
        refine st ?_
        exact wx (WS.mk (tc (wt_cons (wd_c (web hc54)) wt_nil)) wb_nil)
    obtain ⟨r0, hw⟩ := hw
    (conv => whnf)
    refine AWP.weak r0 hw ?_
    refine nw ?_
    refine branch_hF hF (fun hc55 hF => ?_) (fun hc55 hF => ?_)
    · refine AWP.seq ?_
      refine ns ?_
      obtain rfl := some_eq hF
      refine ns ?_
      exact wx (WS.mk (tc wt_nil) wb_nil)
    · refine nw ?_
      refine AWP.seq ?_
      refine ns ?_
      obtain rfl := some_eq hF
      refine ns ?_
      exact wx (WS.mk (tc wt_nil) wb_nil)
end Go.Proofs.YtafniolcakiljaaGreatDoor

set_option linter.unusedVariables false
set_option linter.unusedSimpArgs false
set_option maxRecDepth 100000
set_option maxHeartbeats 4000000
namespace Go.Proofs.YtafniolcakiljaaGreatDoor
open Go Go.Am
def lazycref25_decimal (s : ByteArray) : Option (Int) :=
  lazycref25_decimal_l1 s 0 0
def lazycref25_decimal.M (s : ByteArray) (r : Int) : Prop :=
  CallsX Tryz.prog 53 [.c none (.v (.string s))] [] (fun d b => d = .c none (.v (.int .i64 r)) ∧ b = [])
theorem lazycref25_decimal_ok (s : ByteArray) (r : Int) (hF : lazycref25_decimal s = some r) : lazycref25_decimal.M s r := by
  unfold lazycref25_decimal at hF
  unfold lazycref25_decimal.M
  refine enter tabOk Tryz.func53 rfl (by decide) (Nat.le_of_ble_eq_true rfl) rfl rfl rfl ?_
  refine AWP.seq ?_
  refine ns ?_
  refine AWP.seq ?_
  refine ns ?_
  refine AWP.seq ?_
  refine AWP.seq ?_
  refine ns ?_
  refine AWP.block ?_
  refine AWP.loop ?_
  refine AWL.weak (rn []) ?_ (lazycref25_decimal_l1_ok s 0 0 _ hF)
  exact (WS.mk (tc (tc (tc wt_nil))) wb_nil)
end Go.Proofs.YtafniolcakiljaaGreatDoor

set_option linter.unusedVariables false
set_option linter.unusedSimpArgs false
set_option maxRecDepth 100000
set_option maxHeartbeats 4000000
namespace Go.Proofs.YtafniolcakiljaaGreatDoor
open Go Go.Am
def lazycref25_number (s : ByteArray) : Option (Int × Bool) :=
  lazycref25_decimal s >>= fun r1 =>
  strconv_Itoa r1 >>= fun r2 =>
  some (r1, r2.toList == s.toList)
def lazycref25_number.M (s : ByteArray) (r : Int × Bool) : Prop :=
  CallsX Tryz.prog 35 [.c none (.v (.string s))] [] (fun d b => d = .tup [.c (.v (.int .i64 r.1)), .c (.v (.bool r.2))] ∧ b = [])
theorem lazycref25_number_ok (s : ByteArray) (r : Int × Bool) (hF : lazycref25_number s = some r) : lazycref25_number.M s r := by
  unfold lazycref25_number at hF
  unfold lazycref25_number.M
  refine enter tabOk Tryz.func35 rfl (by decide) (Nat.le_of_ble_eq_true rfl) rfl rfl rfl ?_
  refine AWP.seq ?_
  refine ns ?_
  refine AWP.seq ?_
  obtain ⟨r1, hr1, hF⟩ := bind_some hF
  refine ns ?_
  refine Exists.intro [] ?_
  refine st ?_
  refine cm (CallsX.weak (rn []) (lazycref25_decimal_ok s _ hr1) rfl (WS.mk (tc wt_nil) wb_nil)) ?_
  refine st ?_
  refine AWP.seq ?_
  obtain ⟨r2, hr2, hF⟩ := bind_some hF
  refine ns ?_
  refine Exists.intro [] ?_
  refine st ?_
  refine cm (CallsX.weak (rn []) (strconv_Itoa_ok r1 _ hr2) rfl (WS.mk (tc wt_nil) wb_nil)) ?_
  refine st ?_
  obtain rfl := some_eq hF
  refine ns ?_
  exact wx (WS.mk (wt_cons (wd_tup (wx_c (WE.refl _) (wx_c (WE.refl _) wx_nil))) wt_nil) wb_nil)
end Go.Proofs.YtafniolcakiljaaGreatDoor

set_option linter.unusedVariables false
set_option linter.unusedSimpArgs false
set_option maxRecDepth 100000
set_option maxHeartbeats 4000000
namespace Go.Proofs.YtafniolcakiljaaGreatDoor
open Go Go.Am
def lazycref25_set_l1 (l : (List ByteArray)) (at_1 : Int) (s_7_1 : (List TExc)) : Option (TExcSet × Int × Bool) :=
  (if (decide (at_1 < ((l.length : Nat) : Int))) = true then (ixI l at_1) >>= fun x96 =>
  some (!(x96.toList == (ByteArray.mk #[125]).toList)) else some false) >>= fun c97 =>
  if c97 = true then
  if (decide ((IntKind.i64.wrap (at_1 + 1)) ≥ ((l.length : Nat) : Int))) = true then
  some (TExcSet.mk false s_7_1, at_1, false)
  else
  (ixI l (IntKind.i64.wrap (at_1 + 1))) >>= fun x104 =>
  lazycref25_number x104 >>= fun r105 =>
  if (!r105.2) = true then
  some (TExcSet.mk false s_7_1, at_1, false)
  else
  (ixI l at_1) >>= fun x108 =>
  guardP ((s_7_1.length + ([(TExc.mk x108 r105.1)]).length) * 24 ≤ 140737488355328) >>= fun _ =>
  lazycref25_set_l1 l (IntKind.i64.wrap (at_1 + 2)) (s_7_1 ++ ([(TExc.mk x108 r105.1)]))
  else
  some (TExcSet.mk false s_7_1, IntKind.i64.wrap (at_1 + 1), decide (at_1 < ((l.length : Nat) : Int)))
  partial_fixpoint
def lazycref25_set_l1.M (l : (List ByteArray)) (at_1 : Int) (s_7_1 : (List TExc)) (r : TExcSet × Int × Bool) : Prop :=
  AWL Tryz.prog 62 (Code.sub (bodyOf Tryz.f34) [1, 1, 0, 0, 0]) (Code.cont Tryz.prog 62 (bodyOf Tryz.f34) [1, 1, 0, 0] (endK tab Tryz.f34.results [] (WRes (.tup [.agg [.v (.bool r.1.fAll), .sl (r.1.fList.map TExc.cells)], .c (.v (.int .i64 r.2.1)), .c (.v (.bool r.2.2))]) []))) ⟨[(0, .c none (.sl (l.map c_S))), (1, .c none (.v (.int .i64 at_1))), (4, .ptr 4 0), (7, .ptr 7 0)], [(4, [(none, .v (.bool false)), (none, .nils)]), (7, [(none, .v (.bool false)), ((some (4351, 78)), .sl (s_7_1.map TExc.cells))])]⟩
theorem lazycref25_set_l1_ok (l : (List ByteArray)) (at_1 : Int) (s_7_1 : (List TExc)) : ∀ r, lazycref25_set_l1 l at_1 s_7_1 = some r → lazycref25_set_l1.M l at_1 s_7_1 r := by
  refine lazycref25_set_l1.partial_correctness l (fun at_1 s_7_1 r => lazycref25_set_l1.M l at_1 s_7_1 r) ?_ at_1 s_7_1
  intro lazycref25_set_l1' ih0_lazycref25_set_l1 at_1 s_7_1 r hF
  have ih_lazycref25_set_l1 := fun (_l : (List ByteArray)) (at_1 : Int) (s_7_1 : (List TExc)) => ih0_lazycref25_set_l1 at_1 s_7_1
  clear ih0_lazycref25_set_l1
  unfold lazycref25_set_l1.M
  refine AWL.step ?_
  refine AWP.seq ?_
  refine AWP.seq ?_
  obtain ⟨c97, hc97, hF⟩ := bind_some hF
  refine AWP.cutN (fun T => ∃ r, WS r T ⟨[(0, .c none (.sl (l.map c_S))), (1, .c none (.v (.int .i64 at_1))), (4, .ptr 4 0), (7, .ptr 7 0), (21, .c none (.v (.bool c97)))], [(4, [(none, .v (.bool false)), (none, .nils)]), (7, [(none, .v (.bool false)), ((some (4351, 78)), .sl (s_7_1.map TExc.cells))])]⟩) ?_ (fun T hw => ?_)
  · refine ns ?_
    intro hlen95
    (try rw [List.length_map] at hlen95)
    (try rw [List.length_map])
    refine st ?_
    refine branchG_intro true (fun hc98 => ?_) (fun hc98 => ?_)
    · have hc97 := ift hc98 hc97
      obtain ⟨x96, hx960, hx96, hc97⟩ := ix_some hc97
      (conv => whnf)
      refine sr (map_getI (f := c_S) rfl hx96) ?_
      obtain rfl := some_eq hc97
      refine st ?_
      exact Exists.intro (rn [(4351, 4351)]) (WS.mk (tc (tc (tp (tp (wt_cons (wd_c (web hc98)) wt_nil))))) (wb_cons rfl (cc (cc wc_nil)) (wb_cons rfl (cc (wc_own rfl (WE.refl _) wc_nil)) wb_nil)))
    · have hc97 := ife hc98 hc97
      (conv => whnf)
      obtain rfl := some_eq hc97
      refine st ?_
      exact Exists.intro (rn [(4351, 4351)]) (WS.mk (tc (tc (tp (tp (wt_cons (wd_c (web hc98)) wt_nil))))) (wb_cons rfl (cc (cc wc_nil)) (wb_cons rfl (cc (wc_own rfl (WE.refl _) wc_nil)) wb_nil)))
  obtain ⟨r0, hw⟩ := hw
  (conv => whnf)
  refine AWP.weak r0 hw ?_
  refine nw ?_
  refine branch_hF hF (fun hc99 hF => ?_) (fun hc99 hF => ?_)
  · refine nw ?_
    refine AWP.block ?_
    refine AWP.seq ?_
    refine AWP.seq ?_
    refine ns ?_
    intro hlen102
    (try rw [List.length_map] at hlen102)
    (try rw [List.length_map])
    refine st ?_
    refine nw ?_
    refine branch_hF hF (fun hc103 hF => ?_) (fun hc103 hF => ?_)
    · refine AWP.seq ?_
      refine ns ?_
      obtain rfl := some_eq hF
      refine ns ?_
      exact wx (WS.mk (wt_cons (wd_tup (wx_agg (lc (lc wl_nil)) (wx_c (WE.refl _) (wx_c (WE.refl _) wx_nil)))) wt_nil) wb_nil)
    · refine nw ?_
      refine AWP.seq ?_
      obtain ⟨x104, hx1040, hx104, hF⟩ := ix_some hF
      obtain ⟨r105, hr105, hF⟩ := bind_some hF
      refine nn ?_
      refine sr (map_getI (f := c_S) rfl hx104) ?_
      refine st ?_
      refine Exists.intro [] ?_
      refine st ?_
      refine cm (CallsX.weak (rn []) (lazycref25_number_ok x104 _ hr105) rfl (WS.mk (tc wt_nil) wb_nil)) ?_
      refine st ?_
      refine AWP.seq ?_
      refine AWP.seq ?_
      refine ns ?_
      refine nw ?_
      refine branch_hF hF (fun hc107 hF => ?_) (fun hc107 hF => ?_)
      · refine AWP.seq ?_
        refine ns ?_
        obtain rfl := some_eq hF
        refine ns ?_
        exact wx (WS.mk (wt_cons (wd_tup (wx_agg (lc (lc wl_nil)) (wx_c (WE.refl _) (wx_c (WE.refl _) wx_nil)))) wt_nil) wb_nil)
      · refine nw ?_
        refine AWP.seq ?_
        obtain ⟨x108, hx1080, hx108, hF⟩ := ix_some hF
        obtain ⟨hg109, hF⟩ := guard_some hF
        refine nn ?_
        refine Exists.intro 9 (Exists.intro [[], [], [], [], [], [], [], [], []] (Exists.intro [([42, 43, 44, 45, 46, 47, 48, 49, 50], [], []), ([43, 44, 45, 46, 47, 48, 49, 50], [], []), ([42, 43, 44, 45, 46, 47, 48, 49, 50], [], []), ([42, 43, 44, 45, 46, 47, 48, 49, 50], [], []), ([42, 43, 46, 47, 48, 49, 50], [], []), ([42, 43, 47, 48, 49, 50], [], []), ([42, 43, 44, 45, 46, 47, 48, 49, 50], [], []), ([42, 43, 49, 50], [], []), ([42, 43, 50], [], [])] (Exists.intro [42, 43, 44, 45, 46, 47, 48, 49, 50] (And.intro (by decide +kernel) ?_))))
        refine dp ?_
        refine dp ?_
        refine dp ?_
        refine dp ?_
        ((repeat (first | ((conv => whnf); (with_reducible refine And.intro ?_ ?_); (focus (first | exact Eq.refl _ | exact trivial | exact Int.natCast_nonneg _ | assumption | exact Nat.le_of_ble_eq_true (Eq.refl true) | decide))))); (conv => whnf); apply Exists.intro; apply Exists.intro; apply And.intro; (focus (((repeat (first | ((conv => whnf); (with_reducible refine And.intro ?_ ?_); (focus (first | exact Eq.refl _ | exact trivial | exact Int.natCast_nonneg _ | assumption | exact Nat.le_of_ble_eq_true (Eq.refl true) | decide))))); (conv => whnf)) <;> (rw [map_getI rfl hx108]) <;> ((repeat (first | ((conv => whnf); (with_reducible refine And.intro ?_ ?_); (focus (first | exact Eq.refl _ | exact trivial | exact Int.natCast_nonneg _ | assumption | exact Nat.le_of_ble_eq_true (Eq.refl true) | decide))))); (conv => whnf)) <;> (exact rfl))); apply And.intro; (focus exact rfl); (conv => whnf))
        refine dp ?_
        refine dp ?_
        refine dp ?_
        ((repeat (first | ((conv => whnf); (with_reducible refine And.intro ?_ ?_); (focus (first | exact Eq.refl _ | exact trivial | exact Int.natCast_nonneg _ | assumption | exact Nat.le_of_ble_eq_true (Eq.refl true) | decide))))); (conv => whnf); apply Exists.intro; apply Exists.intro; apply And.intro; (focus (((repeat (first | ((conv => whnf); (with_reducible refine And.intro ?_ ?_); (focus (first | exact Eq.refl _ | exact trivial | exact Int.natCast_nonneg _ | assumption | exact Nat.le_of_ble_eq_true (Eq.refl true) | decide))))); (conv => whnf)) <;> (refine Exists.intro _ (And.intro (we_rows (f := TExc.cells) (wl_eq (TExc.cells_eq (TExc.mk x108 r105.1)) (lc (lc wl_nil))) (we_rows_nil (f := TExc.cells))) ?_)) <;> ((repeat (first | ((conv => whnf); (with_reducible refine And.intro ?_ ?_); (focus (first | exact Eq.refl _ | exact trivial | exact Int.natCast_nonneg _ | assumption | exact Nat.le_of_ble_eq_true (Eq.refl true) | decide))))); (conv => whnf)) <;> (exact rfl))); apply And.intro; (focus exact rfl); (conv => whnf))
        refine st ?_
        refine And.intro (by first | exact rows_map _ (fun x => TExc.cells_len x) | exact rows_nil) (And.intro (by first | exact rows_map _ (fun x => TExc.cells_len x) | exact rows_nil) (And.intro (by have h := hg109; simp only [List.length_map, List.length_append, List.length_cons, List.length_nil, Nat.zero_add] at h ⊢; first | exact h | (unfold maxLen; omega) | omega) (And.intro (by have h := hg109; simp only [List.length_map, List.length_append, List.length_cons, List.length_nil, Nat.zero_add] at h ⊢; first | exact h | (unfold maxLen; omega) | omega) (Exists.intro _ (And.intro (WE.refl _) ?_)))))
        rw [← List.map_append]
        refine st ?_
        refine ns ?_
        refine AWL.weak (rn [(51, 4351)]) ?_ (ih_lazycref25_set_l1 l (IntKind.i64.wrap (at_1 + 2)) (s_7_1 ++ ([(TExc.mk x108 r105.1)])) _ hF)
        exact (WS.mk (tc (tc (tp (tp wt_nil)))) (wb_cons rfl (cc (cc wc_nil)) (wb_cons rfl (cc (wc_own rfl (WE.refl _) wc_nil)) wb_nil)))
  · refine nw ?_
    refine AWP.seq ?_
    refine ns ?_
    intro hlen110
    (try rw [List.length_map] at hlen110)
    (try rw [List.length_map])
    refine st ?_
    obtain rfl := some_eq hF
    refine ns ?_
    exact wx (WS.mk (wt_cons (wd_tup (wx_agg (lc (lc wl_nil)) (wx_c (WE.refl _) (wx_c (WE.refl _) wx_nil)))) wt_nil) wb_nil)
end Go.Proofs.YtafniolcakiljaaGreatDoor

set_option linter.unusedVariables false
set_option linter.unusedSimpArgs false
set_option maxRecDepth 100000
set_option maxHeartbeats 4000000
namespace Go.Proofs.YtafniolcakiljaaGreatDoor
open Go Go.Am
def lazycref25_set (l : (List ByteArray)) (at_ : Int) : Option (TExcSet × Int × Bool) :=
  lazycref25_set_l1 l at_ ([])
def lazycref25_set.M (l : (List ByteArray)) (at_ : Int) (r : TExcSet × Int × Bool) : Prop :=
  CallsX Tryz.prog 34 [.c none (.sl (l.map c_S)), .c none (.v (.int .i64 at_))] [] (fun d b => d = .tup [.agg [.v (.bool r.1.fAll), .sl (r.1.fList.map TExc.cells)], .c (.v (.int .i64 r.2.1)), .c (.v (.bool r.2.2))] ∧ b = [])
theorem lazycref25_set_ok (l : (List ByteArray)) (at_ : Int) (r : TExcSet × Int × Bool) (hF : lazycref25_set l at_ = some r) : lazycref25_set.M l at_ r := by
  unfold lazycref25_set at hF
  unfold lazycref25_set.M
  refine enter tabOk Tryz.func34 rfl (by decide) (Nat.le_of_ble_eq_true rfl) rfl rfl rfl ?_
  refine AWP.seq ?_
  refine ns ?_
  refine AWP.seq ?_
  refine ns ?_
  refine AWP.seq ?_
  refine AWP.block ?_
  refine AWP.loop ?_
  refine AWL.weak (rn []) ?_ (lazycref25_set_l1_ok l at_ ([]) _ hF)
  exact (WS.mk (tc (tc (tp (tp wt_nil)))) (wb_cons rfl (cc (cc wc_nil)) (wb_cons rfl (cc (wc_nilown wc_nil)) wb_nil)))
end Go.Proofs.YtafniolcakiljaaGreatDoor

set_option linter.unusedVariables false
set_option linter.unusedSimpArgs false
set_option maxRecDepth 100000
set_option maxHeartbeats 4000000
namespace Go.Proofs.YtafniolcakiljaaGreatDoor
open Go Go.Am
mutual
def lazycref25_read (toArray : (List ByteArray)) (a1_ : Int) : Option (TValue × Int × Bool) :=
  (if (decide (a1_ ≥ ((toArray.length : Nat) : Int))) = true then some true else (ixI toArray a1_) >>= fun x6 =>
  some (x6.toList == (ByteArray.mk #[]).toList)) >>= fun c7 =>
  if c7 = true then
  some (TValue.mk 0 (ByteArray.mk #[]) 0 ([] : List TValue) (TExcSet.mk false ([] : List TExc)), a1_, false)
  else
  (ixI toArray a1_) >>= fun x10 =>
  if (x10.toList == (ByteArray.mk #[60, 102, 117, 110, 62]).toList) = true then
  some (TValue.mk 4 (ByteArray.mk #[]) 0 ([] : List TValue) (TExcSet.mk false ([] : List TExc)), IntKind.i64.wrap (a1_ + 1), true)
  else
  if (x10.toList == (ByteArray.mk #[63]).toList) = true then
  some (TValue.mk 6 (ByteArray.mk #[]) 0 ([] : List TValue) (TExcSet.mk false ([] : List TExc)), IntKind.i64.wrap (a1_ + 1), true)
  else
  if (x10.toList == (ByteArray.mk #[33, 42]).toList) = true then
  some (TValue.mk 5 (ByteArray.mk #[]) 0 ([] : List TValue) (TExcSet.mk true ([] : List TExc)), IntKind.i64.wrap (a1_ + 1), true)
  else
  if (x10.toList == (ByteArray.mk #[33, 123]).toList) = true then
  lazycref25_set toArray (IntKind.i64.wrap (a1_ + 1)) >>= fun r28 =>
  some (TValue.mk 5 (ByteArray.mk #[]) 0 ([] : List TValue) r28.1, r28.2.1, r28.2.2)
  else
  (btI x10 0) >>= fun y29 =>
  if (((y29.toNat : Nat) : Int) == 35) = true then
  (slS x10 1 ((x10.size : Nat) : Int)) >>= fun z31 =>
  lazycref25_number z31 >>= fun r32 =>
  some (TValue.mk 2 (ByteArray.mk #[]) r32.1 ([] : List TValue) (TExcSet.mk false ([] : List TExc)), IntKind.i64.wrap (a1_ + 1), r32.2)
  else
  if (x10.toList == (ByteArray.mk #[40]).toList) = true then
  lazycref25_fields toArray (IntKind.i64.wrap (a1_ + 1)) >>= fun r34 =>
  some (r34.1, r34.2.1, r34.2.2)
  else
  lazycref25_ConName x10 >>= fun r35 =>
  if r35 = true then
  some (TValue.mk 3 x10 0 ([] : List TValue) (TExcSet.mk false ([] : List TExc)), IntKind.i64.wrap (a1_ + 1), true)
  else
  lazycref25_number x10 >>= fun r37 =>
  some (TValue.mk 1 (ByteArray.mk #[]) r37.1 ([] : List TValue) (TExcSet.mk false ([] : List TExc)), IntKind.i64.wrap (a1_ + 1), r37.2)
  partial_fixpoint
def lazycref25_fields (toArray : (List ByteArray)) (a1_ : Int) : Option (TValue × Int × Bool) :=
  if (decide (a1_ ≥ ((toArray.length : Nat) : Int))) = true then
  some (TValue.mk 0 (ByteArray.mk #[]) 0 ([] : List TValue) (TExcSet.mk false ([] : List TExc)), a1_, false)
  else
  (ixI toArray a1_) >>= fun x5 =>
  lazycref25_fields_l1 toArray (IntKind.i64.wrap (a1_ + 1)) x5 ([])
  partial_fixpoint
def lazycref25_fields_l1 (toArray : (List ByteArray)) (x_1 : Int) (x5 : ByteArray) (c_7_3 : (List TValue)) : Option (TValue × Int × Bool) :=
  (if (decide (x_1 < ((toArray.length : Nat) : Int))) = true then (ixI toArray x_1) >>= fun x71 =>
  some (!(x71.toList == (ByteArray.mk #[41]).toList)) else some false) >>= fun c72 =>
  if c72 = true then
  lazycref25_read toArray x_1 >>= fun r75 =>
  if (!r75.2.2) = true then
  some (TValue.mk 3 x5 0 c_7_3 (TExcSet.mk false ([] : List TExc)), x_1, false)
  else
  guardP ((c_7_3.length + ([r75.1]).length) * 88 ≤ 140737488355328) >>= fun _ =>
  lazycref25_fields_l1 toArray r75.2.1 x5 (c_7_3 ++ ([r75.1]))
  else
  some (TValue.mk 3 x5 0 c_7_3 (TExcSet.mk false ([] : List TExc)), IntKind.i64.wrap (x_1 + 1), (decide (x_1 < ((toArray.length : Nat) : Int))) && (decide (((c_7_3.length : Nat) : Int) > 0)))
  partial_fixpoint
end
def lazycref25_read.M (toArray : (List ByteArray)) (a1_ : Int) (r : TValue × Int × Bool) : Prop :=
  CallsX Tryz.prog 17 [.c none (.sl (toArray.map c_S)), .c none (.v (.int .i64 a1_))] [] (fun d b => d = .tup [.agg [.v (.int .i64 r.1.fOp), .v (.string r.1.fName), .v (.int .i64 r.1.fN), .sl (r.1.fKids.map TValue.cells), .v (.bool r.1.fSet.fAll), .sl (r.1.fSet.fList.map TExc.cells)], .c (.v (.int .i64 r.2.1)), .c (.v (.bool r.2.2))] ∧ b = [])
def lazycref25_fields.M (toArray : (List ByteArray)) (a1_ : Int) (r : TValue × Int × Bool) : Prop :=
  CallsX Tryz.prog 36 [.c none (.sl (toArray.map c_S)), .c none (.v (.int .i64 a1_))] [] (fun d b => d = .tup [.agg [.v (.int .i64 r.1.fOp), .v (.string r.1.fName), .v (.int .i64 r.1.fN), .sl (r.1.fKids.map TValue.cells), .v (.bool r.1.fSet.fAll), .sl (r.1.fSet.fList.map TExc.cells)], .c (.v (.int .i64 r.2.1)), .c (.v (.bool r.2.2))] ∧ b = [])
def lazycref25_fields_l1.M (toArray : (List ByteArray)) (x_1 : Int) (x5 : ByteArray) (c_7_3 : (List TValue)) (r : TValue × Int × Bool) : Prop :=
  toArray.length ≤ maxLen → AWL Tryz.prog 66 (Code.sub (bodyOf Tryz.f36) [1, 1, 1, 1, 0, 0, 0]) (Code.cont Tryz.prog 66 (bodyOf Tryz.f36) [1, 1, 1, 1, 0, 0] (endK tab Tryz.f36.results [] (WRes (.tup [.agg [.v (.int .i64 r.1.fOp), .v (.string r.1.fName), .v (.int .i64 r.1.fN), .sl (r.1.fKids.map TValue.cells), .v (.bool r.1.fSet.fAll), .sl (r.1.fSet.fList.map TExc.cells)], .c (.v (.int .i64 r.2.1)), .c (.v (.bool r.2.2))]) []))) ⟨[(0, .c none (.sl (toArray.map c_S))), (1, .c none (.v (.int .i64 x_1))), (4, .ptr 4 0), (7, .ptr 7 0)], [(4, [(none, .v (.int .i64 0)), (none, .v (.string (ByteArray.mk #[]))), (none, .v (.int .i64 0)), (none, .nils), (none, .v (.bool false)), (none, .nils)]), (7, [(none, .v (.int .i64 3)), (none, .v (.string x5)), (none, .v (.int .i64 0)), ((some (4353, 28)), .sl (c_7_3.map TValue.cells)), (none, .v (.bool false)), (none, .nils)])]⟩
theorem lazycref25_read_all (toArray : (List ByteArray)) : (∀ (a1_ : Int), ∀ r, lazycref25_read toArray a1_ = some r → lazycref25_read.M toArray a1_ r) ∧ (∀ (a1_ : Int), ∀ r, lazycref25_fields toArray a1_ = some r → lazycref25_fields.M toArray a1_ r) ∧ (∀ (x_1 : Int) (x5 : ByteArray) (c_7_3 : (List TValue)), ∀ r, lazycref25_fields_l1 toArray x_1 x5 c_7_3 = some r → lazycref25_fields_l1.M toArray x_1 x5 c_7_3 r) := by
  refine lazycref25_read.mutual_partial_correctness toArray (fun a1_ r => lazycref25_read.M toArray a1_ r) (fun a1_ r => lazycref25_fields.M toArray a1_ r) (fun x_1 x5 c_7_3 r => lazycref25_fields_l1.M toArray x_1 x5 c_7_3 r) ?_ ?_ ?_
  · intro lazycref25_fields' ih0_lazycref25_fields a1_ r hF
    have ih_lazycref25_fields := fun (_toArray : (List ByteArray)) (a1_ : Int) => ih0_lazycref25_fields a1_
    clear ih0_lazycref25_fields
    unfold lazycref25_read.M
    refine enter tabOk Tryz.func17 rfl (by decide) (Nat.le_of_ble_eq_true rfl) rfl rfl rfl ?_
    refine AWP.seq ?_
    refine ns ?_
    refine AWP.seq ?_
    refine AWP.seq ?_
    obtain ⟨c7, hc7, hF⟩ := bind_some hF
    refine AWP.cutN (fun T => ∃ r, WS r T ⟨[(0, .c none (.sl (toArray.map c_S))), (1, .c none (.v (.int .i64 a1_))), (4, .ptr 4 0), (25, .c none (.v (.bool c7)))], [(4, [(none, .v (.int .i64 0)), (none, .v (.string (ByteArray.mk #[]))), (none, .v (.int .i64 0)), (none, .nils), (none, .v (.bool false)), (none, .nils)])]⟩) ?_ (fun T hw => ?_)
    · refine ns ?_
      intro hlen5
      (try rw [List.length_map] at hlen5)
      (try rw [List.length_map])
      refine st ?_
      refine branchG_intro false (fun hc8 => ?_) (fun hc8 => ?_)
      · have hc7 := ift hc8 hc7
        (conv => whnf)
        obtain rfl := some_eq hc7
        refine st ?_
        exact wx (WS.mk (tc (tc (tp (wt_cons (wd_c (web hc8)) wt_nil)))) (wb_cons rfl (cc (cc (cc (cc (cc (cc wc_nil)))))) wb_nil))
      · have hc7 := ife hc8 hc7
        obtain ⟨x6, hx60, hx6, hc7⟩ := ix_some hc7
        (conv => whnf)
        refine sr (map_getI (f := c_S) rfl hx6) ?_
        obtain rfl := some_eq hc7
        refine st ?_
        exact wx (WS.mk (tc (tc (tp (wt_cons (wd_c (web hc8)) wt_nil)))) (wb_cons rfl (cc (cc (cc (cc (cc (cc wc_nil)))))) wb_nil))
    obtain ⟨r0, hw⟩ := hw
    (conv => whnf)
    refine AWP.weak r0 hw ?_
    refine nw ?_
    refine branch_hF hF (fun hc9 hF => ?_) (fun hc9 hF => ?_)
    · refine AWP.seq ?_
      refine ns ?_
      obtain rfl := some_eq hF
      refine ns ?_
      exact wx (WS.mk (wt_cons (wd_tup (wx_agg (lc (lc (lc (wl_cons WE.nil (lc (wl_cons WE.nil wl_nil)))))) (wx_c (WE.refl _) (wx_c (WE.refl _) wx_nil)))) wt_nil) wb_nil)
    · refine nw ?_
      refine AWP.seq ?_
      obtain ⟨x10, hx100, hx10, hF⟩ := ix_some hF
      refine nn ?_
      refine sr (map_getI (f := c_S) rfl hx10) ?_
      refine st ?_
      refine AWP.seq ?_
      refine AWP.block ?_
      refine AWP.seq ?_
      refine ns ?_
      refine nw ?_
      refine branch_hF hF (fun hc24 hF => ?_) (fun hc24 hF => ?_)
      · refine AWP.seq ?_
        refine ns ?_
        obtain rfl := some_eq hF
        refine ns ?_
        exact wx (WS.mk (wt_cons (wd_tup (wx_agg (lc (lc (lc (wl_cons WE.nil (lc (wl_cons WE.nil wl_nil)))))) (wx_c (WE.refl _) (wx_c (WE.refl _) wx_nil)))) wt_nil) wb_nil)
      · refine AWP.seq ?_
        refine ns ?_
        refine nw ?_
        refine branch_hF hF (fun hc25 hF => ?_) (fun hc25 hF => ?_)
        · refine AWP.seq ?_
          refine ns ?_
          obtain rfl := some_eq hF
          refine ns ?_
          exact wx (WS.mk (wt_cons (wd_tup (wx_agg (lc (lc (lc (wl_cons WE.nil (lc (wl_cons WE.nil wl_nil)))))) (wx_c (WE.refl _) (wx_c (WE.refl _) wx_nil)))) wt_nil) wb_nil)
        · refine AWP.seq ?_
          refine ns ?_
          refine nw ?_
          refine branch_hF hF (fun hc26 hF => ?_) (fun hc26 hF => ?_)
          · refine AWP.seq ?_
            refine ns ?_
            obtain rfl := some_eq hF
            refine ns ?_
            exact wx (WS.mk (wt_cons (wd_tup (wx_agg (lc (lc (lc (wl_cons WE.nil (lc (wl_cons WE.nil wl_nil)))))) (wx_c (WE.refl _) (wx_c (WE.refl _) wx_nil)))) wt_nil) wb_nil)
          · refine AWP.seq ?_
            refine ns ?_
            refine nw ?_
            refine branch_hF hF (fun hc27 hF => ?_) (fun hc27 hF => ?_)
            · refine AWP.seq ?_
              obtain ⟨r28, hr28, hF⟩ := bind_some hF
              refine ns ?_
              refine Exists.intro [] ?_
              refine st ?_
              refine cm (CallsX.weak (rn []) (lazycref25_set_ok toArray (IntKind.i64.wrap (a1_ + 1)) _ hr28) rfl (WS.mk (tc (tc wt_nil)) wb_nil)) ?_
              refine st ?_
              refine AWP.seq ?_
              refine ns ?_
              obtain rfl := some_eq hF
              refine ns ?_
              exact wx (WS.mk (wt_cons (wd_tup (wx_agg (lc (lc (lc (wl_cons WE.nil (lc (lc wl_nil)))))) (wx_c (WE.refl _) (wx_c (WE.refl _) wx_nil)))) wt_nil) wb_nil)
            · refine AWP.seq ?_
              obtain ⟨y29, hy290, hy29, hF⟩ := bt_some hF
              refine nn ?_
              refine sr hy29 ?_
              refine st ?_
              refine nw ?_
              refine branch_hF hF (fun hc30 hF => ?_) (fun hc30 hF => ?_)
              · refine AWP.seq ?_
                obtain ⟨z31, hz311, hz312, hz313, hz31, hF⟩ := slS_some hF
                obtain ⟨r32, hr32, hF⟩ := bind_some hF
                refine ns ?_
                rw [← hz31]
                refine st ?_
                refine Exists.intro [] ?_
                refine st ?_
                refine cm (CallsX.weak (rn []) (lazycref25_number_ok z31 _ hr32) rfl (WS.mk (tc wt_nil) wb_nil)) ?_
                refine st ?_
                refine AWP.seq ?_
                refine ns ?_
                obtain rfl := some_eq hF
                refine ns ?_
                exact wx (WS.mk (wt_cons (wd_tup (wx_agg (lc (lc (lc (wl_cons WE.nil (lc (wl_cons WE.nil wl_nil)))))) (wx_c (WE.refl _) (wx_c (WE.refl _) wx_nil)))) wt_nil) wb_nil)
              · refine AWP.seq ?_
                refine ns ?_
                refine nw ?_
                refine branch_hF hF (fun hc33 hF => ?_) (fun hc33 hF => ?_)
                · refine AWP.seq ?_
                  obtain ⟨r34, hr34, hF⟩ := bind_some hF
                  refine ns ?_
                  refine Exists.intro [] ?_
                  refine st ?_
                  refine cm (CallsX.weak (rn []) (ih_lazycref25_fields toArray (IntKind.i64.wrap (a1_ + 1)) _ hr34) rfl (WS.mk (tc (tc wt_nil)) wb_nil)) ?_
                  refine st ?_
                  obtain rfl := some_eq hF
                  refine ns ?_
                  exact wx (WS.mk (wt_cons (wd_tup (wx_agg (lc (lc (lc (lc (lc (lc wl_nil)))))) (wx_c (WE.refl _) (wx_c (WE.refl _) wx_nil)))) wt_nil) wb_nil)
                · refine AWP.seq ?_
                  obtain ⟨r35, hr35, hF⟩ := bind_some hF
                  refine ns ?_
                  refine Exists.intro [] ?_
                  refine st ?_
                  refine cm (CallsX.weak (rn []) (lazycref25_ConName_ok x10 _ hr35) rfl (WS.mk (tc wt_nil) wb_nil)) ?_
                  refine st ?_
                  refine nw ?_
                  refine branch_hF hF (fun hc36 hF => ?_) (fun hc36 hF => ?_)
                  · refine AWP.seq ?_
                    refine ns ?_
                    obtain rfl := some_eq hF
                    refine ns ?_
                    exact wx (WS.mk (wt_cons (wd_tup (wx_agg (lc (lc (lc (wl_cons WE.nil (lc (wl_cons WE.nil wl_nil)))))) (wx_c (WE.refl _) (wx_c (WE.refl _) wx_nil)))) wt_nil) wb_nil)
                  · refine nw ?_
                    refine AWP.seq ?_
                    obtain ⟨r37, hr37, hF⟩ := bind_some hF
                    refine ns ?_
                    refine Exists.intro [] ?_
                    refine st ?_
                    refine cm (CallsX.weak (rn []) (lazycref25_number_ok x10 _ hr37) rfl (WS.mk (tc wt_nil) wb_nil)) ?_
                    refine st ?_
                    refine AWP.seq ?_
                    refine ns ?_
                    obtain rfl := some_eq hF
                    refine ns ?_
                    exact wx (WS.mk (wt_cons (wd_tup (wx_agg (lc (lc (lc (wl_cons WE.nil (lc (wl_cons WE.nil wl_nil)))))) (wx_c (WE.refl _) (wx_c (WE.refl _) wx_nil)))) wt_nil) wb_nil)
  · intro lazycref25_fields_l1' ih0_lazycref25_fields_l1 a1_ r hF
    have ih_lazycref25_fields_l1 := fun (_toArray : (List ByteArray)) (x_1 : Int) (x5 : ByteArray) (c_7_3 : (List TValue)) => ih0_lazycref25_fields_l1 x_1 x5 c_7_3
    clear ih0_lazycref25_fields_l1
    unfold lazycref25_fields.M
    refine enter tabOk Tryz.func36 rfl (by decide) (Nat.le_of_ble_eq_true rfl) rfl rfl rfl ?_
    refine AWP.seq ?_
    refine ns ?_
    refine AWP.seq ?_
    refine AWP.seq ?_
    refine ns ?_
    intro hlen3
    (try rw [List.length_map] at hlen3)
    (try rw [List.length_map])
    refine st ?_
    refine nw ?_
    refine branch_hF hF (fun hc4 hF => ?_) (fun hc4 hF => ?_)
    · refine AWP.seq ?_
      refine ns ?_
      obtain rfl := some_eq hF
      refine ns ?_
      exact wx (WS.mk (wt_cons (wd_tup (wx_agg (lc (lc (lc (wl_cons WE.nil (lc (wl_cons WE.nil wl_nil)))))) (wx_c (WE.refl _) (wx_c (WE.refl _) wx_nil)))) wt_nil) wb_nil)
    · refine nw ?_
      refine AWP.seq ?_
      obtain ⟨x5, hx50, hx5, hF⟩ := ix_some hF
      refine nn ?_
      refine sr (map_getI (f := c_S) rfl hx5) ?_
      refine st ?_
      refine AWP.seq ?_
      refine ns ?_
      refine AWP.seq ?_
      refine AWP.block ?_
      refine AWP.loop ?_
      refine AWL.weak (rn []) ?_ (ih_lazycref25_fields_l1 toArray (IntKind.i64.wrap (a1_ + 1)) x5 ([]) _ hF hlen3)
      exact (WS.mk (tc (tc (tp (tp wt_nil)))) (wb_cons rfl (cc (cc (cc (cc (cc (cc wc_nil)))))) (wb_cons rfl (cc (cc (cc (wc_nilown (cc (cc wc_nil)))))) wb_nil)))
  · intro lazycref25_read' lazycref25_fields_l1' ih0_lazycref25_read ih0_lazycref25_fields_l1 x_1 x5 c_7_3 r hF
    have ih_lazycref25_read := fun (_toArray : (List ByteArray)) (a1_ : Int) => ih0_lazycref25_read a1_
    clear ih0_lazycref25_read
    have ih_lazycref25_fields_l1 := fun (_toArray : (List ByteArray)) (x_1 : Int) (x5 : ByteArray) (c_7_3 : (List TValue)) => ih0_lazycref25_fields_l1 x_1 x5 c_7_3
    clear ih0_lazycref25_fields_l1
    unfold lazycref25_fields_l1.M
    intro hlen3
    refine AWL.step ?_
    refine AWP.seq ?_
    refine AWP.seq ?_
    obtain ⟨c72, hc72, hF⟩ := bind_some hF
    refine AWP.cutN (fun T => ∃ r, WS r T ⟨[(0, .c none (.sl (toArray.map c_S))), (1, .c none (.v (.int .i64 x_1))), (4, .ptr 4 0), (7, .ptr 7 0), (34, .c none (.v (.bool c72)))], [(4, [(none, .v (.int .i64 0)), (none, .v (.string (ByteArray.mk #[]))), (none, .v (.int .i64 0)), (none, .nils), (none, .v (.bool false)), (none, .nils)]), (7, [(none, .v (.int .i64 3)), (none, .v (.string x5)), (none, .v (.int .i64 0)), ((some (4353, 28)), .sl (c_7_3.map TValue.cells)), (none, .v (.bool false)), (none, .nils)])]⟩) ?_ (fun T hw => ?_)
    · refine ns ?_
      intro hlen70
      (try rw [List.length_map] at hlen70)
      (try rw [List.length_map])
      refine st ?_
      refine branchG_intro true (fun hc73 => ?_) (fun hc73 => ?_)
      · have hc72 := ift hc73 hc72
        obtain ⟨x71, hx710, hx71, hc72⟩ := ix_some hc72
        (conv => whnf)
        refine sr (map_getI (f := c_S) rfl hx71) ?_
        obtain rfl := some_eq hc72
        refine st ?_
        exact Exists.intro (rn [(4353, 4353)]) (WS.mk (tc (tc (tp (tp (wt_cons (wd_c (web hc73)) wt_nil))))) (wb_cons rfl (cc (cc (cc (cc (cc (cc wc_nil)))))) (wb_cons rfl (cc (cc (cc (wc_own rfl (WE.refl _) (cc (cc wc_nil)))))) wb_nil)))
      · have hc72 := ife hc73 hc72
        (conv => whnf)
        obtain rfl := some_eq hc72
        refine st ?_
        exact Exists.intro (rn [(4353, 4353)]) (WS.mk (tc (tc (tp (tp (wt_cons (wd_c (web hc73)) wt_nil))))) (wb_cons rfl (cc (cc (cc (cc (cc (cc wc_nil)))))) (wb_cons rfl (cc (cc (cc (wc_own rfl (WE.refl _) (cc (cc wc_nil)))))) wb_nil)))
    obtain ⟨r0, hw⟩ := hw
    (conv => whnf)
    refine AWP.weak r0 hw ?_
    refine nw ?_
    refine branch_hF hF (fun hc74 hF => ?_) (fun hc74 hF => ?_)
    · refine nw ?_
      refine AWP.block ?_
      refine AWP.seq ?_
      obtain ⟨r75, hr75, hF⟩ := bind_some hF
      refine ns ?_
      refine Exists.intro [] ?_
      refine st ?_
      refine cm (CallsX.weak (rn []) (ih_lazycref25_read toArray x_1 _ hr75) rfl (WS.mk (tc (tc wt_nil)) wb_nil)) ?_
      refine st ?_
      refine AWP.seq ?_
      refine AWP.seq ?_
      refine ns ?_
      refine nw ?_
      refine branch_hF hF (fun hc77 hF => ?_) (fun hc77 hF => ?_)
      · refine AWP.seq ?_
        refine ns ?_
        obtain rfl := some_eq hF
        refine ns ?_
        exact wx (WS.mk (wt_cons (wd_tup (wx_agg (lc (lc (lc (lc (lc (wl_cons WE.nil wl_nil)))))) (wx_c (WE.refl _) (wx_c (WE.refl _) wx_nil)))) wt_nil) wb_nil)
      · refine nw ?_
        refine AWP.seq ?_
        obtain ⟨hg78, hF⟩ := guard_some hF
        refine ns ?_
        refine Exists.intro _ (And.intro (we_rows (f := TValue.cells) (wl_eq (TValue.cells_eq r75.1) (lc (lc (lc (lc (lc (lc wl_nil))))))) (we_rows_nil (f := TValue.cells))) ?_)
        refine st ?_
        refine And.intro (by first | exact rows_map _ (fun x => TValue.cells_len x) | exact rows_nil) (And.intro (by first | exact rows_map _ (fun x => TValue.cells_len x) | exact rows_nil) (And.intro (by have h := hg78; simp only [List.length_map, List.length_append, List.length_cons, List.length_nil, Nat.zero_add] at h ⊢; first | exact h | (unfold maxLen; omega) | omega) (And.intro (by have h := hg78; simp only [List.length_map, List.length_append, List.length_cons, List.length_nil, Nat.zero_add] at h ⊢; first | exact h | (unfold maxLen; omega) | omega) (Exists.intro _ (And.intro (WE.refl _) ?_)))))
        rw [← List.map_append]
        refine st ?_
        refine ns ?_
        refine AWL.weak (rn [(50, 4353)]) ?_ (ih_lazycref25_fields_l1 toArray r75.2.1 x5 (c_7_3 ++ ([r75.1])) _ hF hlen3)
        exact (WS.mk (tc (tc (tp (tp wt_nil)))) (wb_cons rfl (cc (cc (cc (cc (cc (cc wc_nil)))))) (wb_cons rfl (cc (cc (cc (wc_own rfl (WE.refl _) (cc (cc wc_nil)))))) wb_nil)))
    · refine nw ?_
      refine AWP.seq ?_
      refine AWP.cutN (fun T => ∃ r, WS r T ⟨[(4, .ptr 4 0), (5, .c none (.v (.int .i64 (IntKind.i64.wrap (x_1 + 1))))), (6, .c none (.v (.bool ((decide (x_1 < ((toArray.length : Nat) : Int))) && (decide (((c_7_3.length : Nat) : Int) > 0))))))], [(4, [(none, .v (.int .i64 3)), (none, .v (.string x5)), (none, .v (.int .i64 0)), (none, .sl (c_7_3.map TValue.cells)), (none, .v (.bool false)), (none, .nils)])]⟩) ?_ (fun T hw => ?_)
      · refine nn ?_
        refine Exists.intro 15 (Exists.intro [[], [], [], [], [], [], [], [], [], [], [], [], [], [4], []] (Exists.intro [([53, 54, 55, 56, 57, 58, 59, 60, 61, 62, 63, 64, 65, 5], [], []), ([53, 54, 55, 56, 57, 58, 59, 60, 61, 62, 63, 64, 65, 5], [4], []), ([53, 55, 56, 57, 58, 59, 60, 61, 62, 63, 64, 65, 5], [4], []), ([53, 54, 55, 56, 57, 58, 59, 60, 61, 62, 63, 64, 65, 5], [], []), ([53, 54, 55, 56, 57, 58, 59, 60, 61, 62, 63, 64, 65, 5], [], []), ([53, 54, 55, 56, 58, 59, 60, 61, 62, 63, 64, 65, 5], [], []), ([53, 54, 55, 59, 60, 61, 62, 63, 64, 65, 5], [], []), ([53, 54, 55, 60, 61, 62, 63, 64, 65, 5], [], []), ([53, 54, 55, 61, 62, 63, 64, 65, 5], [4], []), ([53, 54, 55, 62, 63, 64, 65, 5], [4], []), ([53, 54, 55, 63, 64, 65, 5], [4], []), ([53, 54, 55, 64, 65, 5], [4], []), ([53, 54, 55, 65, 5], [4], []), ([54, 55, 61, 62, 63, 64, 65, 5], [], [4]), ([61, 62, 63, 64, 65, 5], [], [])] (Exists.intro [53, 54, 55, 56, 57, 58, 59, 60, 61, 62, 63, 64, 65, 5] (And.intro (by decide +kernel) ?_))))
        refine dp ?_
        refine dp ?_
        refine dp ?_
        refine dp ?_
        refine dp ?_
        ((repeat (first | ((conv => whnf); (with_reducible refine And.intro ?_ ?_); (focus (first | exact Eq.refl _ | exact trivial | exact Int.natCast_nonneg _ | assumption | exact Nat.le_of_ble_eq_true (Eq.refl true) | decide))))); (conv => whnf); apply Exists.intro; apply Exists.intro; apply And.intro; (focus (((repeat (first | ((conv => whnf); (with_reducible refine And.intro ?_ ?_); (focus (first | exact Eq.refl _ | exact trivial | exact Int.natCast_nonneg _ | assumption | exact Nat.le_of_ble_eq_true (Eq.refl true) | decide))))); (conv => whnf)) <;> ((intro hlen0; (try rw [List.length_map]))) <;> ((repeat (first | ((conv => whnf); (with_reducible refine And.intro ?_ ?_); (focus (first | exact Eq.refl _ | exact trivial | exact Int.natCast_nonneg _ | assumption | exact Nat.le_of_ble_eq_true (Eq.refl true) | decide))))); (conv => whnf)) <;> (exact rfl))); apply And.intro; (focus exact rfl); (conv => whnf))
        refine dp ?_
        refine dp ?_
        refine st ?_
        refine branchG_intro true (fun hc79 => ?_) (fun hc79 => ?_)
        · (conv => whnf)
          refine dp ?_
          refine dp ?_
          ((repeat (first | ((conv => whnf); (with_reducible refine And.intro ?_ ?_); (focus (first | exact Eq.refl _ | exact trivial | exact Int.natCast_nonneg _ | assumption | exact Nat.le_of_ble_eq_true (Eq.refl true) | decide))))); (conv => whnf); apply Exists.intro; apply Exists.intro; apply And.intro; (focus (((repeat (first | ((conv => whnf); (with_reducible refine And.intro ?_ ?_); (focus (first | exact Eq.refl _ | exact trivial | exact Int.natCast_nonneg _ | assumption | exact Nat.le_of_ble_eq_true (Eq.refl true) | decide))))); (conv => whnf)) <;> ((intro hlen0; (try rw [List.length_map]))) <;> ((repeat (first | ((conv => whnf); (with_reducible refine And.intro ?_ ?_); (focus (first | exact Eq.refl _ | exact trivial | exact Int.natCast_nonneg _ | assumption | exact Nat.le_of_ble_eq_true (Eq.refl true) | decide))))); (conv => whnf)) <;> (exact rfl))); apply And.intro; (focus exact rfl); (conv => whnf))
          refine dp ?_
          refine dp ?_
          refine dp ?_
          refine dp ?_
          refine st ?_
          exact wx (WS.mk (tp (tc (wt_cons (wd_c (web hc79)) wt_nil))) (wb_cons rfl (cc (cc (cc (cc (cc (cc wc_nil)))))) wb_nil))
        · (conv => whnf)
          refine dp ?_
          refine dp ?_
          refine dp ?_
          refine st ?_
          exact wx (WS.mk (tp (tc (wt_cons (wd_c (web hc79)) wt_nil))) (wb_cons rfl (cc (cc (cc (cc (cc (cc wc_nil)))))) wb_nil))
      obtain ⟨r0, hw⟩ := hw
      (conv => whnf)
      refine AWP.weak r0 hw ?_
      obtain rfl := some_eq hF
      refine ns ?_
      exact wx (WS.mk (wt_cons (wd_tup (wx_agg (lc (lc (lc (lc (lc (wl_cons WE.nil wl_nil)))))) (wx_c (WE.refl _) (wx_c (WE.refl _) wx_nil)))) wt_nil) wb_nil)
theorem lazycref25_read_ok : ∀ (toArray : (List ByteArray)) (a1_ : Int), ∀ r, lazycref25_read toArray a1_ = some r → lazycref25_read.M toArray a1_ r := fun toArray a1_ => (lazycref25_read_all toArray).1 a1_
theorem lazycref25_fields_ok : ∀ (toArray : (List ByteArray)) (a1_ : Int), ∀ r, lazycref25_fields toArray a1_ = some r → lazycref25_fields.M toArray a1_ r := fun toArray a1_ => (lazycref25_read_all toArray).2.1 a1_
theorem lazycref25_fields_l1_ok : ∀ (toArray : (List ByteArray)) (x_1 : Int) (x5 : ByteArray) (c_7_3 : (List TValue)), ∀ r, lazycref25_fields_l1 toArray x_1 x5 c_7_3 = some r → lazycref25_fields_l1.M toArray x_1 x5 c_7_3 r := fun toArray x_1 x5 c_7_3 => (lazycref25_read_all toArray).2.2 x_1 x5 c_7_3
end Go.Proofs.YtafniolcakiljaaGreatDoor

set_option linter.unusedVariables false
set_option linter.unusedSimpArgs false
set_option maxRecDepth 100000
set_option maxHeartbeats 4000000
namespace Go.Proofs.YtafniolcakiljaaGreatDoor
open Go Go.Am
def lazycref25_Parse (s : ByteArray) : Option (TValue × TFault) :=
  strings_Split s (ByteArray.mk #[32]) >>= fun r1 =>
  lazycref25_read r1 0 >>= fun r2 =>
  (if ((!r2.2.2) || (r2.2.1 != ((r1.length : Nat) : Int))) = true then some true else lazycref25_Check r2.1 >>= fun r8 =>
  some (r8 != 0)) >>= fun c9 =>
  if c9 = true then
  some (TValue.mk 0 (ByteArray.mk #[]) 0 ([] : List TValue) (TExcSet.mk false ([] : List TExc)), TFault.mk 31 (ByteArray.mk #[]) 0 0)
  else
  some (r2.1, TFault.mk 0 (ByteArray.mk #[]) 0 0)
def lazycref25_Parse.M (s : ByteArray) (r : TValue × TFault) : Prop :=
  CallsX Tryz.prog 7 [.c none (.v (.string s))] [] (fun d b => d = .tup [.agg [.v (.int .i64 r.1.fOp), .v (.string r.1.fName), .v (.int .i64 r.1.fN), .sl (r.1.fKids.map TValue.cells), .v (.bool r.1.fSet.fAll), .sl (r.1.fSet.fList.map TExc.cells)], .agg [.v (.int .i64 r.2.fCode), .v (.string r.2.fName), .v (.int .i64 r.2.fLine), .v (.int .i64 r.2.fCol)]] ∧ b = [])
theorem lazycref25_Parse_ok (s : ByteArray) (r : TValue × TFault) (hF : lazycref25_Parse s = some r) : lazycref25_Parse.M s r := by
  unfold lazycref25_Parse at hF
  unfold lazycref25_Parse.M
  refine enter tabOk Tryz.func7 rfl (by decide) (Nat.le_of_ble_eq_true rfl) rfl rfl rfl ?_
  refine AWP.seq ?_
  refine ns ?_
  refine AWP.seq ?_
  obtain ⟨r1, hr1, hF⟩ := bind_some hF
  refine ns ?_
  refine Exists.intro [] ?_
  refine st ?_
  refine cm (CallsX.weak (rn []) (strings_Split_ok s (ByteArray.mk #[32]) _ hr1) rfl (WS.mk (tc (tc wt_nil)) wb_nil)) ?_
  refine st ?_
  refine AWP.seq ?_
  obtain ⟨r2, hr2, hF⟩ := bind_some hF
  refine ns ?_
  refine Exists.intro [] ?_
  refine st ?_
  refine cm (CallsX.weak (rn []) (lazycref25_read_ok r1 0 _ hr2) rfl (WS.mk (tc (tc wt_nil)) wb_nil)) ?_
  refine st ?_
  refine AWP.seq ?_
  refine AWP.seq ?_
  obtain ⟨c9, hc9, hF⟩ := bind_some hF
  refine AWP.cutN (fun T => ∃ r, WS r T ⟨[(2, .ptr 2 0), (3, .ptr 3 0), (5, .ptr 5 0), (28, .c none (.v (.bool c9)))], [(2, [(none, .v (.int .i64 0)), (none, .v (.string (ByteArray.mk #[]))), (none, .v (.int .i64 0)), (none, .nils), (none, .v (.bool false)), (none, .nils)]), (3, [(none, .v (.int .i64 0)), (none, .v (.string (ByteArray.mk #[]))), (none, .v (.int .i64 0)), (none, .v (.int .i64 0))]), (5, [(none, .v (.int .i64 r2.1.fOp)), (none, .v (.string r2.1.fName)), (none, .v (.int .i64 r2.1.fN)), (none, .sl (r2.1.fKids.map TValue.cells)), (none, .v (.bool r2.1.fSet.fAll)), (none, .sl (r2.1.fSet.fList.map TExc.cells))])]⟩) ?_ (fun T hw => ?_)
  · refine ns ?_
    refine branchG_intro false (fun hc10 => ?_) (fun hc10 => ?_)
    · (conv => whnf)
      have hc9 := ift hc10 hc9
      obtain rfl := some_eq hc9
      refine st ?_
      exact wx (WS.mk (tp (tp (tp (wt_cons (wd_c (web hc10)) wt_nil)))) (wb_cons rfl (cc (cc (cc (cc (cc (cc wc_nil)))))) (wb_cons rfl (cc (cc (cc (cc wc_nil)))) (wb_cons rfl (cc (cc (cc (cc (cc (cc wc_nil)))))) wb_nil))))
    · (conv => whnf)
      refine st ?_
      intro hlen7
      (try rw [List.length_map] at hlen7)
      (try rw [List.length_map])
      refine st ?_
      refine branchG_intro false (fun hc11 => ?_) (fun hc11 => ?_)
      · have hc9 := ift (And.intro hc10 hc11) hc9
        (conv => whnf)
        obtain rfl := some_eq hc9
        refine st ?_
        exact wx (WS.mk (tp (tp (tp (wt_cons (wd_c (web (And.intro hc10 hc11))) wt_nil)))) (wb_cons rfl (cc (cc (cc (cc (cc (cc wc_nil)))))) (wb_cons rfl (cc (cc (cc (cc wc_nil)))) (wb_cons rfl (cc (cc (cc (cc (cc (cc wc_nil)))))) wb_nil))))
      · have hc9 := ife (And.intro hc10 hc11) hc9
        obtain ⟨r8, hr8, hc9⟩ := bind_some hc9
        (conv => whnf)
        refine st ?_
        refine Exists.intro [] ?_
        refine st ?_
        refine cm (CallsX.weak (rn []) (lazycref25_Check_ok r2.1 _ hr8) rfl (WS.mk (wt_cons (wd_agg (lc (lc (lc (lc (lc (lc wl_nil))))))) wt_nil) wb_nil)) ?_
        refine st ?_
        obtain rfl := some_eq hc9
        refine st ?_
        exact wx (WS.mk (tp (tp (tp (wt_cons (wd_c (web (And.intro hc10 hc11))) wt_nil)))) (wb_cons rfl (cc (cc (cc (cc (cc (cc wc_nil)))))) (wb_cons rfl (cc (cc (cc (cc wc_nil)))) (wb_cons rfl (cc (cc (cc (cc (cc (cc wc_nil)))))) wb_nil))))
  obtain ⟨r0, hw⟩ := hw
  (conv => whnf)
  refine AWP.weak r0 hw ?_
  refine nw ?_
  refine branch_hF hF (fun hc12 hF => ?_) (fun hc12 hF => ?_)
  · refine AWP.seq ?_
    refine ns ?_
    obtain rfl := some_eq hF
    refine ns ?_
    exact wx (WS.mk (wt_cons (wd_tup (wx_agg (lc (lc (lc (wl_cons WE.nil (lc (wl_cons WE.nil wl_nil)))))) (wx_agg (lc (lc (lc (lc wl_nil)))) wx_nil))) wt_nil) wb_nil)
  · refine nw ?_
    refine AWP.seq ?_
    refine ns ?_
    obtain rfl := some_eq hF
    refine ns ?_
    exact wx (WS.mk (wt_cons (wd_tup (wx_agg (lc (lc (lc (lc (lc (lc wl_nil)))))) (wx_agg (lc (lc (lc (lc wl_nil)))) wx_nil))) wt_nil) wb_nil)
end Go.Proofs.YtafniolcakiljaaGreatDoor

set_option linter.unusedVariables false
set_option linter.unusedSimpArgs false
set_option maxRecDepth 100000
set_option maxHeartbeats 4000000
namespace Go.Proofs.YtafniolcakiljaaGreatDoor
open Go Go.Am
def lazyclaw25_ValuesPrint (v : TValue) (s : ByteArray) : Option (Bool) :=
  lazyclaw25_small v >>= fun r4 =>
  if ((!r4) || (decide (((s.size : Nat) : Int) > 20000))) = true then
  lazyclaw25_example >>= fun r7 =>
  some r7
  else
  values_Parse s >>= fun r8 =>
  lazycref25_Parse s >>= fun r9 =>
  values_Print v >>= fun r10 =>
  lazycref25_Print v >>= fun r11 =>
  (if ((r10.toList == r11.toList) && ((r8.2.fCode == r9.2.fCode) && ((r8.2.fName.toList == r9.2.fName.toList) && ((r8.2.fLine == r9.2.fLine) && ((r8.2.fCol == r9.2.fCol) && true))))) = true then lazycref25_Same r8.1 r9.1 >>= fun r12 =>
  some r12 else some false) >>= fun c13 =>
  (if c13 = true then lazyclaw25_example >>= fun r14 =>
  some r14 else some false) >>= fun c15 =>
  some c15
def lazyclaw25_ValuesPrint.M (v : TValue) (s : ByteArray) (r : Bool) : Prop :=
  CallsX Tryz.prog 3 [.agg [.v (.int .i64 v.fOp), .v (.string v.fName), .v (.int .i64 v.fN), .sl (v.fKids.map TValue.cells), .v (.bool v.fSet.fAll), .sl (v.fSet.fList.map TExc.cells)], .c none (.v (.string s))] [] (fun d b => d = .c none (.v (.bool r)) ∧ b = [])
theorem lazyclaw25_ValuesPrint_ok (v : TValue) (s : ByteArray) (r : Bool) (hF : lazyclaw25_ValuesPrint v s = some r) : lazyclaw25_ValuesPrint.M v s r := by
  unfold lazyclaw25_ValuesPrint at hF
  unfold lazyclaw25_ValuesPrint.M
  refine enter tabOk Tryz.func3 rfl (by decide) (Nat.le_of_ble_eq_true rfl) rfl rfl rfl ?_
  refine AWP.seq ?_
  refine ns ?_
  refine AWP.seq ?_
  refine AWP.seq ?_
  obtain ⟨r4, hr4, hF⟩ := bind_some hF
  refine AWP.cutN (fun T => ∃ r, WS r T ⟨[(1, .c none (.v (.string s))), (2, .ptr 2 0), (16, .c none (.v (.bool ((!r4) || (decide (((s.size : Nat) : Int) > 20000))))))], [(2, [(none, .v (.int .i64 v.fOp)), (none, .v (.string v.fName)), (none, .v (.int .i64 v.fN)), (none, .sl (v.fKids.map TValue.cells)), (none, .v (.bool v.fSet.fAll)), (none, .sl (v.fSet.fList.map TExc.cells))])]⟩) ?_ (fun T hw => ?_)
  · refine ns ?_
    refine Exists.intro [] ?_
    refine st ?_
    refine cm (CallsX.weak (rn []) (lazyclaw25_small_ok v _ hr4) rfl (WS.mk (wt_cons (wd_agg (lc (lc (lc (lc (lc (lc wl_nil))))))) wt_nil) wb_nil)) ?_
    refine st ?_
    refine branchG_intro false (fun hc5 => ?_) (fun hc5 => ?_)
    · (conv => whnf)
      refine st ?_
      exact wx (WS.mk (tc (tp (wt_cons (wd_c (web hc5)) wt_nil))) (wb_cons rfl (cc (cc (cc (cc (cc (cc wc_nil)))))) wb_nil))
    · (conv => whnf)
      refine st ?_
      exact wx (WS.mk (tc (tp (wt_cons (wd_c (web hc5)) wt_nil))) (wb_cons rfl (cc (cc (cc (cc (cc (cc wc_nil)))))) wb_nil))
  obtain ⟨r0, hw⟩ := hw
  (conv => whnf)
  refine AWP.weak r0 hw ?_
  refine nw ?_
  refine branch_hF hF (fun hc6 hF => ?_) (fun hc6 hF => ?_)
  · refine AWP.seq ?_
    obtain ⟨r7, hr7, hF⟩ := bind_some hF
    refine ns ?_
    refine Exists.intro [] ?_
    refine st ?_
    refine cm (CallsX.weak (rn []) (lazyclaw25_example_ok _ hr7) rfl (WS.mk wt_nil wb_nil)) ?_
    refine st ?_
    obtain rfl := some_eq hF
    refine ns ?_
    exact wx (WS.mk (tc wt_nil) wb_nil)
  · refine nw ?_
    refine AWP.seq ?_
    obtain ⟨r8, hr8, hF⟩ := bind_some hF
    refine ns ?_
    refine Exists.intro [] ?_
    refine st ?_
    refine cm (CallsX.weak (rn []) (values_Parse_ok s _ hr8) rfl (WS.mk (tc wt_nil) wb_nil)) ?_
    refine st ?_
    refine AWP.seq ?_
    obtain ⟨r9, hr9, hF⟩ := bind_some hF
    refine ns ?_
    refine Exists.intro [] ?_
    refine st ?_
    refine cm (CallsX.weak (rn []) (lazycref25_Parse_ok s _ hr9) rfl (WS.mk (tc wt_nil) wb_nil)) ?_
    refine st ?_
    refine AWP.seq ?_
    obtain ⟨r10, hr10, hF⟩ := bind_some hF
    obtain ⟨r11, hr11, hF⟩ := bind_some hF
    obtain ⟨c13, hc13, hF⟩ := bind_some hF
    obtain ⟨c15, hc15, hF⟩ := bind_some hF
    refine AWP.cutN (fun T => ∃ r, WS r T ⟨[(4, .c none (.v (.bool c15)))], []⟩) ?_ (fun T hw => ?_)
    · refine nn ?_
      refine Exists.intro 13 (Exists.intro [[], [], [], [], [], [], [], [], [], [], [], [], []] (Exists.intro [([28, 29, 30, 31, 32, 33, 34, 35, 36, 37, 38, 39, 40], [], []), ([29, 30, 31, 32, 33, 34, 35, 36, 37, 38, 39, 40], [], []), ([28, 29, 30, 31, 32, 33, 34, 35, 36, 37, 38, 39, 40], [], []), ([31, 32, 33, 34, 35, 36, 37, 38, 39, 40], [], []), ([32, 33, 34, 35, 36, 37, 38, 39, 40], [], []), ([33, 34, 35, 36, 37, 38, 39, 40], [], []), ([34, 35, 36, 37, 38, 39, 40], [], []), ([34, 35, 36, 37, 38, 39, 40], [], []), ([36, 37, 38, 39, 40], [], []), ([37, 38, 39, 40], [], []), ([38, 39, 40], [], []), ([39, 40], [], []), ([39, 40], [], [])] (Exists.intro [28, 29, 30, 31, 32, 33, 34, 35, 36, 37, 38, 39, 40] (And.intro (by decide +kernel) ?_))))
      refine dp ?_
      ((repeat (first | ((conv => whnf); (with_reducible refine And.intro ?_ ?_); (focus (first | exact Eq.refl _ | exact trivial | exact Int.natCast_nonneg _ | assumption | exact Nat.le_of_ble_eq_true (Eq.refl true) | decide))))); (conv => whnf); apply Exists.intro; apply Exists.intro; apply And.intro; (focus ((conv => whnf); refine And.intro rfl ?_; (conv => whnf); refine CallsX.mono (CallsX.weak (rn []) (values_Print_ok v _ hr10) rfl (WS.mk (wt_cons (wd_agg (lc (lc (lc (lc (lc (lc wl_nil))))))) wt_nil) wb_nil)) ?_; rintro d b ⟨rfl, rfl⟩; exact And.intro rfl rfl)); apply And.intro; (focus exact rfl); (conv => whnf))
      refine dp ?_
      ((repeat (first | ((conv => whnf); (with_reducible refine And.intro ?_ ?_); (focus (first | exact Eq.refl _ | exact trivial | exact Int.natCast_nonneg _ | assumption | exact Nat.le_of_ble_eq_true (Eq.refl true) | decide))))); (conv => whnf); apply Exists.intro; apply Exists.intro; apply And.intro; (focus ((conv => whnf); refine And.intro rfl ?_; (conv => whnf); refine CallsX.mono (CallsX.weak (rn []) (lazycref25_Print_ok v _ hr11) rfl (WS.mk (wt_cons (wd_agg (lc (lc (lc (lc (lc (lc wl_nil))))))) wt_nil) wb_nil)) ?_; rintro d b ⟨rfl, rfl⟩; exact And.intro rfl rfl)); apply And.intro; (focus exact rfl); (conv => whnf))
      refine dp ?_
      refine dp ?_
      refine st ?_
      refine branchG_intro true (fun hc16 => ?_) (fun hc16 => ?_)
      · (conv => whnf)
        refine dp ?_
        refine dp ?_
        refine dp ?_
        refine dp ?_
        refine dp ?_
        refine st ?_
        refine branchG_intro true (fun hc17 => ?_) (fun hc17 => ?_)
        · have hc13 := if_then (by first | assumption | exact Eq.refl _ | (simp only [hc16, hc17, Bool.and_true, Bool.true_and, Bool.and_false, Bool.false_and, Bool.or_true, Bool.true_or, Bool.or_false, Bool.false_or, Bool.not_true, Bool.not_false, cond_true, cond_false, List.length_map]; done) | ((try simp only [Bool.and_true, Bool.true_and, Bool.and_false, Bool.false_and, Bool.or_true, Bool.true_or, Bool.or_false, Bool.false_or, Bool.not_true, Bool.not_false, cond_true, cond_false, List.length_map] at hc16); (try simp only [Bool.and_true, Bool.true_and, Bool.and_false, Bool.false_and, Bool.or_true, Bool.true_or, Bool.or_false, Bool.false_or, Bool.not_true, Bool.not_false, cond_true, cond_false, List.length_map] at hc17); (try simp only [Bool.and_true, Bool.true_and, Bool.and_false, Bool.false_and, Bool.or_true, Bool.true_or, Bool.or_false, Bool.false_or, Bool.not_true, Bool.not_false, cond_true, cond_false, List.length_map]); simp only [hc16, hc17, Bool.and_true, Bool.true_and, Bool.and_false, Bool.false_and, Bool.or_true, Bool.true_or, Bool.or_false, Bool.false_or, Bool.not_true, Bool.not_false, cond_true, cond_false, List.length_map])) hc13
          obtain ⟨r12, hr12, hc13⟩ := bind_some hc13
          (conv => whnf)
          refine dp ?_
          refine dp ?_
          refine st ?_
          refine Exists.intro [] ?_
          refine st ?_
          refine cm (CallsX.weak (rn []) (lazycref25_Same_ok r8.1 r9.1 _ hr12) rfl (WS.mk (wt_cons (wd_agg (lc (lc (lc (lc (lc (lc wl_nil))))))) (wt_cons (wd_agg (lc (lc (lc (lc (lc (lc wl_nil))))))) wt_nil)) wb_nil)) ?_
          refine st ?_
          obtain rfl := some_eq hc13
          refine st ?_
          refine branchG_intro true (fun hc18 => ?_) (fun hc18 => ?_)
          · have hc15 := if_then (by first | assumption | exact Eq.refl _ | (simp only [hc16, hc17, hc18, Bool.and_true, Bool.true_and, Bool.and_false, Bool.false_and, Bool.or_true, Bool.true_or, Bool.or_false, Bool.false_or, Bool.not_true, Bool.not_false, cond_true, cond_false, List.length_map]; done) | ((try simp only [Bool.and_true, Bool.true_and, Bool.and_false, Bool.false_and, Bool.or_true, Bool.true_or, Bool.or_false, Bool.false_or, Bool.not_true, Bool.not_false, cond_true, cond_false, List.length_map] at hc16); (try simp only [Bool.and_true, Bool.true_and, Bool.and_false, Bool.false_and, Bool.or_true, Bool.true_or, Bool.or_false, Bool.false_or, Bool.not_true, Bool.not_false, cond_true, cond_false, List.length_map] at hc17); (try simp only [Bool.and_true, Bool.true_and, Bool.and_false, Bool.false_and, Bool.or_true, Bool.true_or, Bool.or_false, Bool.false_or, Bool.not_true, Bool.not_false, cond_true, cond_false, List.length_map] at hc18); (try simp only [Bool.and_true, Bool.true_and, Bool.and_false, Bool.false_and, Bool.or_true, Bool.true_or, Bool.or_false, Bool.false_or, Bool.not_true, Bool.not_false, cond_true, cond_false, List.length_map]); simp only [hc16, hc17, hc18, Bool.and_true, Bool.true_and, Bool.and_false, Bool.false_and, Bool.or_true, Bool.true_or, Bool.or_false, Bool.false_or, Bool.not_true, Bool.not_false, cond_true, cond_false, List.length_map])) hc15
            obtain ⟨r14, hr14, hc15⟩ := bind_some hc15
            (conv => whnf)
            refine st ?_
            refine Exists.intro [] ?_
            refine st ?_
            refine cm (CallsX.weak (rn []) (lazyclaw25_example_ok _ hr14) rfl (WS.mk wt_nil wb_nil)) ?_
            refine st ?_
            obtain rfl := some_eq hc15
            refine st ?_
            exact wx (WS.mk (wt_cons (wd_c (web (And.intro hc16 (And.intro hc17 hc18)))) wt_nil) wb_nil)
          · have hc15 := if_else (by first | assumption | exact Eq.refl _ | (simp only [hc16, hc17, hc18, Bool.and_true, Bool.true_and, Bool.and_false, Bool.false_and, Bool.or_true, Bool.true_or, Bool.or_false, Bool.false_or, Bool.not_true, Bool.not_false, cond_true, cond_false, List.length_map]; done) | ((try simp only [Bool.and_true, Bool.true_and, Bool.and_false, Bool.false_and, Bool.or_true, Bool.true_or, Bool.or_false, Bool.false_or, Bool.not_true, Bool.not_false, cond_true, cond_false, List.length_map] at hc16); (try simp only [Bool.and_true, Bool.true_and, Bool.and_false, Bool.false_and, Bool.or_true, Bool.true_or, Bool.or_false, Bool.false_or, Bool.not_true, Bool.not_false, cond_true, cond_false, List.length_map] at hc17); (try simp only [Bool.and_true, Bool.true_and, Bool.and_false, Bool.false_and, Bool.or_true, Bool.true_or, Bool.or_false, Bool.false_or, Bool.not_true, Bool.not_false, cond_true, cond_false, List.length_map] at hc18); (try simp only [Bool.and_true, Bool.true_and, Bool.and_false, Bool.false_and, Bool.or_true, Bool.true_or, Bool.or_false, Bool.false_or, Bool.not_true, Bool.not_false, cond_true, cond_false, List.length_map]); simp only [hc16, hc17, hc18, Bool.and_true, Bool.true_and, Bool.and_false, Bool.false_and, Bool.or_true, Bool.true_or, Bool.or_false, Bool.false_or, Bool.not_true, Bool.not_false, cond_true, cond_false, List.length_map])) hc15
            (conv => whnf)
            obtain rfl := some_eq hc15
            refine st ?_
            exact wx (WS.mk (wt_cons (wd_c (web (And.intro hc16 (And.intro hc17 hc18)))) wt_nil) wb_nil)
        · have hc13 := if_else (by first | assumption | exact Eq.refl _ | (simp only [hc16, hc17, Bool.and_true, Bool.true_and, Bool.and_false, Bool.false_and, Bool.or_true, Bool.true_or, Bool.or_false, Bool.false_or, Bool.not_true, Bool.not_false, cond_true, cond_false, List.length_map]; done) | ((try simp only [Bool.and_true, Bool.true_and, Bool.and_false, Bool.false_and, Bool.or_true, Bool.true_or, Bool.or_false, Bool.false_or, Bool.not_true, Bool.not_false, cond_true, cond_false, List.length_map] at hc16); (try simp only [Bool.and_true, Bool.true_and, Bool.and_false, Bool.false_and, Bool.or_true, Bool.true_or, Bool.or_false, Bool.false_or, Bool.not_true, Bool.not_false, cond_true, cond_false, List.length_map] at hc17); (try simp only [Bool.and_true, Bool.true_and, Bool.and_false, Bool.false_and, Bool.or_true, Bool.true_or, Bool.or_false, Bool.false_or, Bool.not_true, Bool.not_false, cond_true, cond_false, List.length_map]); simp only [hc16, hc17, Bool.and_true, Bool.true_and, Bool.and_false, Bool.false_and, Bool.or_true, Bool.true_or, Bool.or_false, Bool.false_or, Bool.not_true, Bool.not_false, cond_true, cond_false, List.length_map])) hc13
          (conv => whnf)
          obtain rfl := some_eq hc13
          have hc15 := if_else (by first | assumption | exact Eq.refl _ | (simp only [hc16, hc17, Bool.and_true, Bool.true_and, Bool.and_false, Bool.false_and, Bool.or_true, Bool.true_or, Bool.or_false, Bool.false_or, Bool.not_true, Bool.not_false, cond_true, cond_false, List.length_map]; done) | ((try simp only [Bool.and_true, Bool.true_and, Bool.and_false, Bool.false_and, Bool.or_true, Bool.true_or, Bool.or_false, Bool.false_or, Bool.not_true, Bool.not_false, cond_true, cond_false, List.length_map] at hc16); (try simp only [Bool.and_true, Bool.true_and, Bool.and_false, Bool.false_and, Bool.or_true, Bool.true_or, Bool.or_false, Bool.false_or, Bool.not_true, Bool.not_false, cond_true, cond_false, List.length_map] at hc17); (try simp only [Bool.and_true, Bool.true_and, Bool.and_false, Bool.false_and, Bool.or_true, Bool.true_or, Bool.or_false, Bool.false_or, Bool.not_true, Bool.not_false, cond_true, cond_false, List.length_map]); simp only [hc16, hc17, Bool.and_true, Bool.true_and, Bool.and_false, Bool.false_and, Bool.or_true, Bool.true_or, Bool.or_false, Bool.false_or, Bool.not_true, Bool.not_false, cond_true, cond_false, List.length_map])) hc15
          obtain rfl := some_eq hc15
          refine st ?_
          exact wx (WS.mk (wt_cons (wd_c (web (And.intro hc16 hc17))) wt_nil) wb_nil)
      · (conv => whnf)
        refine dp ?_
        refine dp ?_
        have hc13 := if_else (by first | assumption | exact Eq.refl _ | (simp only [hc16, Bool.and_true, Bool.true_and, Bool.and_false, Bool.false_and, Bool.or_true, Bool.true_or, Bool.or_false, Bool.false_or, Bool.not_true, Bool.not_false, cond_true, cond_false, List.length_map]; done) | ((try simp only [Bool.and_true, Bool.true_and, Bool.and_false, Bool.false_and, Bool.or_true, Bool.true_or, Bool.or_false, Bool.false_or, Bool.not_true, Bool.not_false, cond_true, cond_false, List.length_map] at hc16); (try simp only [Bool.and_true, Bool.true_and, Bool.and_false, Bool.false_and, Bool.or_true, Bool.true_or, Bool.or_false, Bool.false_or, Bool.not_true, Bool.not_false, cond_true, cond_false, List.length_map]); simp only [hc16, Bool.and_true, Bool.true_and, Bool.and_false, Bool.false_and, Bool.or_true, Bool.true_or, Bool.or_false, Bool.false_or, Bool.not_true, Bool.not_false, cond_true, cond_false, List.length_map])) hc13
        obtain rfl := some_eq hc13
        have hc15 := if_else (by first | assumption | exact Eq.refl _ | (simp only [hc16, Bool.and_true, Bool.true_and, Bool.and_false, Bool.false_and, Bool.or_true, Bool.true_or, Bool.or_false, Bool.false_or, Bool.not_true, Bool.not_false, cond_true, cond_false, List.length_map]; done) | ((try simp only [Bool.and_true, Bool.true_and, Bool.and_false, Bool.false_and, Bool.or_true, Bool.true_or, Bool.or_false, Bool.false_or, Bool.not_true, Bool.not_false, cond_true, cond_false, List.length_map] at hc16); (try simp only [Bool.and_true, Bool.true_and, Bool.and_false, Bool.false_and, Bool.or_true, Bool.true_or, Bool.or_false, Bool.false_or, Bool.not_true, Bool.not_false, cond_true, cond_false, List.length_map]); simp only [hc16, Bool.and_true, Bool.true_and, Bool.and_false, Bool.false_and, Bool.or_true, Bool.true_or, Bool.or_false, Bool.false_or, Bool.not_true, Bool.not_false, cond_true, cond_false, List.length_map])) hc15
        obtain rfl := some_eq hc15
        refine st ?_
        exact wx (WS.mk (wt_cons (wd_c (web hc16)) wt_nil) wb_nil)
    obtain ⟨r0, hw⟩ := hw
    (conv => whnf)
    refine AWP.weak r0 hw ?_
    obtain rfl := some_eq hF
    refine ns ?_
    exact wx (WS.mk (tc wt_nil) wb_nil)
end Go.Proofs.YtafniolcakiljaaGreatDoor

