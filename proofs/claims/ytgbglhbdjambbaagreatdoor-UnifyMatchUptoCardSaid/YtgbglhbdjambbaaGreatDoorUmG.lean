/- Part 7 of the proof: the program's functions as Lean functions with their walks, and the plain law. It holds for every input, without conditions. -/
import Derived.Lib.LaidTab
import Derived.Lib.ItoaNum
import Derived.KernelRfl
import Derived.Stop.LaidErr
import Derived.Test.YtgbglhbdjambbaaGreatDoorRows
import Derived.Test.YtgbglhbdjambbaaGreatDoorUmA
import Derived.Test.YtgbglhbdjambbaaGreatDoorUmB
import Derived.Test.YtgbglhbdjambbaaGreatDoorUmC
import Derived.Test.YtgbglhbdjambbaaGreatDoorUmD
import Derived.Test.YtgbglhbdjambbaaGreatDoorUmE
import Derived.Test.YtgbglhbdjambbaaGreatDoorUmF
set_option linter.unusedVariables false
set_option linter.unusedSimpArgs false
set_option maxRecDepth 100000
set_option maxHeartbeats 4000000
set_option synthInstance.maxHeartbeats 1000000
set_option synthInstance.maxSize 1000
namespace Go.Proofs.YtgbglhbdjambbaaGreatDoor
open Go Go.Am
mutual
def Z0 (s : (List Ze)) (p : Za) (t : Za) : Option ((List Ze) × Bool × (List Ze)) :=
 if (p.fOp == 1) = true then
 ZbR s p.fName >>= fun r22 =>
 if (decide (r22 ≥ 0)) = true then
 (ixI s r22) >>= fun x26 =>
 ZaO x26.fType t >>= fun r27 =>
 some (s, r27, s)
 else
 ZV ((s.length + ([(Ze.mk p.fName t)]).length) * 88 ≤ 140737488355328) >>= fun _ =>
 some (s ++ ([(Ze.mk p.fName t)]), true, s ++ ([(Ze.mk p.fName t)]))
 else
 if ((p.fOp != t.fOp) || (!(p.fName.toList == t.fName.toList))) = true then
 some (([] : List Ze), false, ([] : List Ze))
 else
 ZZ true 0 p t s
 partial_fixpoint
def ZZ (Zh4 : Bool) (ZfU : Nat) (p : Za) (t : Za) (ZeY : (List Ze)) : Option ((List Ze) × Bool × (List Ze)) :=
 if ((decide (((ZfU : Nat) : Int) < ((p.fKids.length : Nat) : Int))) && Zh4) = true then
 (p.fKids[ZfU]?) >>= fun x82 =>
 (t.fKids[ZfU]?) >>= fun x83 =>
 Z0 ZeY x82 x83 >>= fun r84 =>
 ZV (ZfU + 1 ≤ 9223372036854775807) >>= fun _ =>
 ZZ r84.2.1 (ZfU + 1) p t r84.2.2
 else
 some (ZeY, Zh4, ZeY)
 partial_fixpoint
end
def Z0.M (s : (List Ze)) (p : Za) (t : Za) (r : (List Ze) × Bool × (List Ze)) : Prop :=
 Zk Tryz.prog 48 [.c none (.rs 7000 s.length), .agg [.v (.int .i64 p.fOp), .v (.string p.fName), .sl (p.fBound.fArgs.map Zj.cells), .sl (p.fKids.map Za.cells)], .agg [.v (.int .i64 t.fOp), .v (.string t.fName), .sl (t.fBound.fArgs.map Zj.cells), .sl (t.fKids.map Za.cells)]] [(7000, [(none, .ob 90 (s.map Ze.cells))])] (fun d b => d = .tup [.c (.rs 7000 r.2.2.length), .c (.v (.bool r.2.1))] ∧ b = [(7000, [(none, .ob 90 (r.2.2.map Ze.cells))])])
def ZZ.M (Zh4 : Bool) (ZfU : Nat) (p : Za) (t : Za) (ZeY : (List Ze)) (r : (List Ze) × Bool × (List Ze)) : Prop :=
 AWL Tryz.prog 74 (Code.sub (Zr Tryz.f48) [1, 1, 1, 1, 0, 1, 0, 0]) (Code.cont Tryz.prog 74 (Zr Tryz.f48) [1, 1, 1, 1, 0, 1, 0] (ZbV tab Tryz.f48.results (Zb0 (.tup [.c (.rs 7000 r.2.2.length), .c (.v (.bool r.2.1))]) [(7000, [(none, .ob 90 (r.2.2.map Ze.cells))])]))) ⟨[(0, .c none (.rs 7000 ZeY.length)), (4, .ptr 4 0), (5, .ptr 5 0), (9, .c none (.v (.bool Zh4))), (10, .c none (.v (.int .i64 ((ZfU : Nat) : Int))))], [(4, [(none, .v (.int .i64 p.fOp)), (none, .v (.string p.fName)), (none, .sl (p.fBound.fArgs.map Zj.cells)), (none, .sl (p.fKids.map Za.cells))]), (5, [(none, .v (.int .i64 t.fOp)), (none, .v (.string t.fName)), (none, .sl (t.fBound.fArgs.map Zj.cells)), (none, .sl (t.fKids.map Za.cells))]), (7000, [(none, .ob 90 (ZeY.map Ze.cells))])]⟩
theorem Zk6 : (∀ (s : (List Ze)) (p : Za) (t : Za), ∀ r, Z0 s p t = some r → Z0.M s p t r) ∧ (∀ (Zh4 : Bool) (ZfU : Nat) (p : Za) (t : Za) (ZeY : (List Ze)), ∀ r, ZZ Zh4 ZfU p t ZeY = some r → ZZ.M Zh4 ZfU p t ZeY r) := by
 refine Z0.mutual_partial_correctness Z0.M ZZ.M ?_ ?_
 ·intro lazycref18_match___l1' ZeK s p t r hF
  unfold Z0.M
  refine en Tryz.func48 ?_
  refine AWP.seq ?_
  refine ns ?_
  refine AWP.seq ?_
  refine AWP.seq ?_
  refine ns ?_
  refine nw ?_
  refine Zi hF (fun Zff hF => ?_) (fun Zff hF => ?_)
  ·refine AWP.seq ?_
   refine AWP.seq ?_
   obtain ⟨r22, Zvy, hF⟩ := bind_some hF
   refine ns ?_
   refine Exists.intro [] (Exists.intro [(7000, 1000)] (Exists.intro [] ?_))
   refine st ?_
   refine cm (Zk.weak (rn []) (Zir s p.fName _ Zvy) rfl (WS.mk (Zd (Zq (Z2 (by first | exact rfl | simp only [List.length_set]))) (tc Zb)) (Zf rfl (cc Zg) Zc))) ?_
   refine st ?_
   refine AWP.seq ?_
   refine ns ?_
   refine nw ?_
   refine Zi hF (fun Zz7 hF => ?_) (fun Zz7 hF => ?_)
   ·refine AWP.seq ?_
    obtain ⟨x26, ZEG, ZDT, hF⟩ := Zd6 hF
    obtain ⟨r27, ZB1, hF⟩ := bind_some hF
    refine nn ?_
    refine Or.inl (Or.inr (Exists.intro [0, 1, 6] (Exists.intro [[20, 21, 26], [20, 21, 26], [20, 21, 26]] (Exists.intro [5] (Exists.intro [0, 5, 20, 21, 26] (Exists.intro [20, 21, 26] (Exists.intro [2, 3, 4, 5, 7, 8, 9] (And.intro (by decide +kernel) ?_))))))))
    refine dp ?_
    refine dp ?_
    refine dp ?_
    refine st ?_
    refine And.intro (ZrR ZEG ZDT) ?_
    refine st ?_
    refine sr (Zdi (f := Ze.cells) (Ze.cells_eq x26) ZDT) ?_
    refine st ?_
    refine e3 ?_
    refine st ?_
    refine cm (Zk.weak (rn []) (Zf7 x26.fType t _ ZB1) rfl (WS.mk (Zd (Zp (lc (lc (lc (lc Zn))))) (Zd (Zp (lc (lc (lc (lc Zn))))) Zb)) Zc)) ?_
    refine st ?_
    obtain rfl := Zh hF
    refine ns ?_
    refine Exists.intro [(7000, 7000)] ?_
    refine st ?_
    exact wx (WS.mk (Zd (Zca (ZbI (Z2 (by first | exact rfl | simp only [List.length_set])) (ZbI (WE.refl _) Zb8))) Zb) (Zf rfl (cc Zg) Zc))
   ·refine nw ?_
    refine AWP.seq ?_
    obtain ⟨ZHu, hF⟩ := Zv hF
    refine ns ?_
    refine Exists.intro _ (And.intro (Zcb (f := Ze.cells) (ZdW (Ze.cells_eq (Ze.mk p.fName t)) (lc (lc (lc (lc (lc Zn)))))) (Zap (f := Ze.cells))) ?_)
    refine sa (fun l => ZbH l (fun x => Ze.cells_len x)) ZHu ?_
    refine Exists.intro (([(Ze.mk p.fName t)]).map Ze.cells) (Exists.intro ((s ++ ([(Ze.mk p.fName t)])).map Ze.cells) (Exists.intro (s ++ ([(Ze.mk p.fName t)])).length (And.intro (WE.refl _) (And.intro (ZrJ (by first | exact rfl | simp only [List.length_set])) (And.intro (ZqA (by first | exact rfl | simp only [List.length_set]) (by first | exact List.length_map _ | exact rfl)) ?_)))))
    refine st ?_
    obtain rfl := Zh hF
    refine ns ?_
    refine Exists.intro [(7000, 7000)] ?_
    refine st ?_
    exact wx (WS.mk (Zd (Zca (ZbI (Z2 (by first | exact rfl | simp only [List.length_set])) (ZbI (WE.refl _) Zb8))) Zb) (Zf rfl (cc Zg) Zc))
  ·refine nw ?_
   refine AWP.seq ?_
   refine AWP.seq ?_
   refine AWP.cutN (fun T => ∃ r, WS r T ⟨[(0, .c none (.rs 7000 s.length)), (4, .ptr 4 0), (5, .ptr 5 0), (46, .c none (.v (.bool ((p.fOp != t.fOp) || (!(p.fName.toList == t.fName.toList))))))], [(4, [(none, .v (.int .i64 p.fOp)), (none, .v (.string p.fName)), (none, .sl (p.fBound.fArgs.map Zj.cells)), (none, .sl (p.fKids.map Za.cells))]), (5, [(none, .v (.int .i64 t.fOp)), (none, .v (.string t.fName)), (none, .sl (t.fBound.fArgs.map Zj.cells)), (none, .sl (t.fKids.map Za.cells))]), (7000, [(none, .ob 90 (s.map Ze.cells))])]⟩) ?_ (fun T hw => ?_)
   ·refine ns ?_
    refine Zl false (fun Zmt => ?_) (fun Zmt => ?_)
    ·(conv => whnf)
     refine st ?_
     exact wx (WS.mk (Zd (Zq (Z2 (by first | exact rfl | simp only [List.length_set]))) (tp (tp (Zd (Zq (web Zmt)) Zb)))) (Zf rfl (cc (cc (cc (cc Zg)))) (Zf rfl (cc (cc (cc (cc Zg)))) (Zf rfl (cc Zg) Zc))))
    ·(conv => whnf)
     refine st ?_
     exact wx (WS.mk (Zd (Zq (Z2 (by first | exact rfl | simp only [List.length_set]))) (tp (tp (Zd (Zq (web Zmt)) Zb)))) (Zf rfl (cc (cc (cc (cc Zg)))) (Zf rfl (cc (cc (cc (cc Zg)))) (Zf rfl (cc Zg) Zc))))
   obtain ⟨r0, hw⟩ := hw
   (conv => whnf)
   refine AWP.weak r0 hw ?_
   refine nw ?_
   refine Zi hF (fun Zu4 hF => ?_) (fun Zu4 hF => ?_)
   ·refine AWP.seq ?_
    refine ns ?_
    refine AWP.thaw 6 7000 45 rfl ?_
    refine AWP.force ?_
    (conv => whnf)
    obtain rfl := Zh hF
    refine ns ?_
    refine Exists.intro [(7000, 7000)] ?_
    refine st ?_
    exact wx (WS.mk (Zd (Zca (ZbI (Z2 (by first | exact rfl | simp only [List.length_set])) (ZbI (WE.refl _) Zb8))) Zb) (Zf rfl (cc Zg) Zc))
   ·refine nw ?_
    refine AWP.seq ?_
    refine ns ?_
    refine AWP.seq ?_
    refine AWP.seq ?_
    refine ns ?_
    refine AWP.block ?_
    refine AWP.loop ?_
    refine AWL.weak (rn []) ?_ (ZeK true 0 p t s _ hF)
    exact (WS.mk (Zd (Zq (Z2 (by first | exact rfl | simp only [List.length_set]))) (tp (tp (tc (tc Zb))))) (Zf rfl (cc (cc (cc (cc Zg)))) (Zf rfl (cc (cc (cc (cc Zg)))) (Zf rfl (cc Zg) Zc))))
 ·intro lazycref18_match__' lazycref18_match___l1' ZlA ZeK Zh4 ZfU p t ZeY r hF
  unfold ZZ.M
  refine AWL.step ?_
  refine AWP.seq ?_
  refine AWP.seq ?_
  refine AWP.cutN (fun T => ∃ r, WS r T ⟨[(0, .c none (.rs 7000 ZeY.length)), (4, .ptr 4 0), (5, .ptr 5 0), (9, .c none (.v (.bool Zh4))), (10, .c none (.v (.int .i64 ((ZfU : Nat) : Int)))), (54, .c none (.v (.bool ((decide (((ZfU : Nat) : Int) < ((p.fKids.length : Nat) : Int))) && Zh4))))], [(4, [(none, .v (.int .i64 p.fOp)), (none, .v (.string p.fName)), (none, .sl (p.fBound.fArgs.map Zj.cells)), (none, .sl (p.fKids.map Za.cells))]), (5, [(none, .v (.int .i64 t.fOp)), (none, .v (.string t.fName)), (none, .sl (t.fBound.fArgs.map Zj.cells)), (none, .sl (t.fKids.map Za.cells))]), (7000, [(none, .ob 90 (ZeY.map Ze.cells))])]⟩) ?_ (fun T hw => ?_)
  ·refine ns ?_
   intro hlen69
   (try rw [List.length_map] at hlen69)
   (try rw [List.length_map])
   refine st ?_
   refine Zl true (fun Zza => ?_) (fun Zza => ?_)
   ·(conv => whnf)
    refine st ?_
    exact wx (WS.mk (Zd (Zq (Z2 (by first | exact rfl | simp only [List.length_set]))) (tp (tp (tc (tc (Zd (Zq (web Zza)) Zb)))))) (Zf rfl (cc (cc (cc (cc Zg)))) (Zf rfl (cc (cc (cc (cc Zg)))) (Zf rfl (cc Zg) Zc))))
   ·(conv => whnf)
    refine st ?_
    exact wx (WS.mk (Zd (Zq (Z2 (by first | exact rfl | simp only [List.length_set]))) (tp (tp (tc (tc (Zd (Zq (web Zza)) Zb)))))) (Zf rfl (cc (cc (cc (cc Zg)))) (Zf rfl (cc (cc (cc (cc Zg)))) (Zf rfl (cc Zg) Zc))))
  obtain ⟨r0, hw⟩ := hw
  (conv => whnf)
  refine AWP.weak r0 hw ?_
  refine nw ?_
  refine Zi hF (fun ZBM hF => ?_) (fun ZBM hF => ?_)
  ·refine nw ?_
   refine AWP.seq ?_
   refine AWP.block ?_
   obtain ⟨x82, ZGG, hF⟩ := bind_some hF
   obtain ⟨x83, ZHq, hF⟩ := bind_some hF
   obtain ⟨r84, ZFC, hF⟩ := bind_some hF
   refine nn ?_
   refine Or.inr (Exists.intro 13 (And.intro (by decide +kernel) ?_))
   refine Or.inl (Exists.intro 11 (Exists.intro [[], [], [], [], [], [], [], [], [], [], []] (Exists.intro [([58, 59, 60, 61, 62, 63, 64, 65, 66, 67, 68], [], []), ([58, 59, 60, 61, 62, 63, 64, 65, 66, 67, 68], [], []), ([58, 60, 61, 62, 63, 64, 65, 66, 67, 68], [], []), ([58, 59, 60, 61, 62, 63, 64, 65, 66, 67, 68], [], []), ([58, 62, 63, 64, 65, 66, 67, 68], [], []), ([58, 63, 64, 65, 66, 67, 68], [], []), ([58, 59, 60, 61, 62, 63, 64, 65, 66, 67, 68], [], []), ([58, 59, 60, 61, 62, 63, 65, 66, 67, 68], [], []), ([58, 59, 60, 61, 62, 63, 64, 65, 66, 67, 68], [], []), ([58, 59, 60, 61, 62, 63, 67, 68], [], []), ([58, 59, 60, 61, 62, 63, 68], [], [])] (Exists.intro [58, 59, 60, 61, 62, 63, 64, 65, 66, 67, 68] (And.intro (by decide +kernel) ?_)))))
   refine dp ?_
   refine dp ?_
   refine dp ?_
   refine dp ?_
   refine dr (ZX (Za.cells_eq x82) ZGG) ?_
   refine dp ?_
   refine dp ?_
   refine dp ?_
   refine dp ?_
   refine dr (ZX (Za.cells_eq x83) ZHq) ?_
   refine dp ?_
   refine st ?_
   refine Exists.intro [] (Exists.intro [(7000, 7000)] (Exists.intro [] ?_))
   refine st ?_
   refine cm (Zk.weak (rn []) (ZlA ZeY x82 x83 _ ZFC) rfl (WS.mk (Zd (Zq (Z2 (by first | exact rfl | simp only [List.length_set]))) (Zd (Zp (lc (lc (lc (lc Zn))))) (Zd (Zp (lc (lc (lc (lc Zn))))) Zb))) (Zf rfl (cc Zg) Zc))) ?_
   refine st ?_
   refine Or.inl (Exists.intro 3 (Exists.intro [[], [], []] (Exists.intro [([70, 71, 0], [], []), ([70, 71, 0], [], []), ([71, 0], [], [])] (Exists.intro [70, 71, 0] (And.intro (by decide +kernel) ?_)))))
   refine dp ?_
   refine dp ?_
   refine dp ?_
   refine st ?_
   obtain ⟨ZDC, hF⟩ := Zv hF
   refine ns ?_
   refine AWL.weak (rn []) ?_ (ZeK r84.2.1 (ZfU + 1) p t r84.2.2 _ hF)
   exact (WS.mk (Zd (Zq (Z2 (by first | exact rfl | simp only [List.length_set]))) (tp (tp (tc (Zd (Zq (Zc0 (ZcZ ZDC))) Zb))))) (Zf rfl (cc (cc (cc (cc Zg)))) (Zf rfl (cc (cc (cc (cc Zg)))) (Zf rfl (cc Zg) Zc))))
  ·refine nw ?_
   refine AWP.seq ?_
   refine ns ?_
   obtain rfl := Zh hF
   refine ns ?_
   refine Exists.intro [(7000, 7000)] ?_
   refine st ?_
   exact wx (WS.mk (Zd (Zca (ZbI (Z2 (by first | exact rfl | simp only [List.length_set])) (ZbI (WE.refl _) Zb8))) Zb) (Zf rfl (cc Zg) Zc))
theorem ZlL : ∀ (s : (List Ze)) (p : Za) (t : Za), ∀ r, Z0 s p t = some r → Z0.M s p t r := Zk6.1

def Z6 (Zh4 : Bool) (ZfU : Nat) (p : Za) (t : Za) (ZdG : (List Ze)) : Option ((List Ze) × Bool) :=
 if ((decide (((ZfU : Nat) : Int) < ((p.fKids.length : Nat) : Int))) && Zh4) = true then
 (p.fKids[ZfU]?) >>= fun x66 =>
 (t.fKids[ZfU]?) >>= fun x67 =>
 Z0 ZdG x66 x67 >>= fun r68 =>
 ZV (ZfU + 1 ≤ 9223372036854775807) >>= fun _ =>
 Z6 r68.2.1 (ZfU + 1) p t r68.2.2
 else
 some (ZdG, Zh4)
 partial_fixpoint
def Z6.M (Zh4 : Bool) (ZfU : Nat) (p : Za) (t : Za) (ZdG : (List Ze)) (r : (List Ze) × Bool) : Prop :=
 AWL Tryz.prog 74 (Code.sub (Zr Tryz.f48) [1, 1, 1, 1, 0, 1, 0, 0]) (Code.cont Tryz.prog 74 (Zr Tryz.f48) [1, 1, 1, 1, 0, 1, 0] (ZbV tab Tryz.f48.results (Zb0 (.tup [.c (.rs 2000 r.1.length), .c (.v (.bool r.2))]) [(2000, [(none, .ob 90 (r.1.map Ze.cells))])]))) ⟨[(0, .c none (.rs 6000 ZdG.length)), (4, .ptr 4 0), (5, .ptr 5 0), (9, .c none (.v (.bool Zh4))), (10, .c none (.v (.int .i64 ((ZfU : Nat) : Int))))], [(4, [(none, .v (.int .i64 p.fOp)), (none, .v (.string p.fName)), (none, .sl (p.fBound.fArgs.map Zj.cells)), (none, .sl (p.fKids.map Za.cells))]), (5, [(none, .v (.int .i64 t.fOp)), (none, .v (.string t.fName)), (none, .sl (t.fBound.fArgs.map Zj.cells)), (none, .sl (t.fKids.map Za.cells))]), (6000, [(none, .ob 90 (ZdG.map Ze.cells))])]⟩
theorem Zks (Zh4 : Bool) (ZfU : Nat) (p : Za) (t : Za) (ZdG : (List Ze)) : ∀ r, Z6 Zh4 ZfU p t ZdG = some r → Z6.M Zh4 ZfU p t ZdG r := by
 refine Z6.partial_correctness p t (fun Zh4 ZfU ZdG r => Z6.M Zh4 ZfU p t ZdG r) ?_ Zh4 ZfU ZdG
 intro lazycref18_match_l1' ZgN Zh4 ZfU ZdG r hF
 have Zld := fun (Zh4 : Bool) (ZfU : Nat) (_p : Za) (_t : Za) (ZdG : (List Ze)) => ZgN Zh4 ZfU ZdG
 clear ZgN
 unfold Z6.M
 refine AWL.step ?_
 refine AWP.seq ?_
 refine AWP.seq ?_
 refine AWP.cutN (fun T => ∃ r, WS r T ⟨[(0, .c none (.rs 6000 ZdG.length)), (4, .ptr 4 0), (5, .ptr 5 0), (9, .c none (.v (.bool Zh4))), (10, .c none (.v (.int .i64 ((ZfU : Nat) : Int)))), (54, .c none (.v (.bool ((decide (((ZfU : Nat) : Int) < ((p.fKids.length : Nat) : Int))) && Zh4))))], [(4, [(none, .v (.int .i64 p.fOp)), (none, .v (.string p.fName)), (none, .sl (p.fBound.fArgs.map Zj.cells)), (none, .sl (p.fKids.map Za.cells))]), (5, [(none, .v (.int .i64 t.fOp)), (none, .v (.string t.fName)), (none, .sl (t.fBound.fArgs.map Zj.cells)), (none, .sl (t.fKids.map Za.cells))]), (6000, [(none, .ob 90 (ZdG.map Ze.cells))])]⟩) ?_ (fun T hw => ?_)
 ·refine ns ?_
  intro hlen53
  (try rw [List.length_map] at hlen53)
  (try rw [List.length_map])
  refine st ?_
  refine Zl true (fun ZeS => ?_) (fun ZeS => ?_)
  ·(conv => whnf)
   refine st ?_
   exact wx (WS.mk (Zd (Zq (Z2 (by first | exact rfl | simp only [List.length_set]))) (tp (tp (tc (tc (Zd (Zq (web ZeS)) Zb)))))) (Zf rfl (cc (cc (cc (cc Zg)))) (Zf rfl (cc (cc (cc (cc Zg)))) (Zf rfl (cc Zg) Zc))))
  ·(conv => whnf)
   refine st ?_
   exact wx (WS.mk (Zd (Zq (Z2 (by first | exact rfl | simp only [List.length_set]))) (tp (tp (tc (tc (Zd (Zq (web ZeS)) Zb)))))) (Zf rfl (cc (cc (cc (cc Zg)))) (Zf rfl (cc (cc (cc (cc Zg)))) (Zf rfl (cc Zg) Zc))))
 obtain ⟨r0, hw⟩ := hw
 (conv => whnf)
 refine AWP.weak r0 hw ?_
 refine nw ?_
 refine Zi hF (fun ZnA hF => ?_) (fun ZnA hF => ?_)
 ·refine nw ?_
  refine AWP.seq ?_
  refine AWP.block ?_
  obtain ⟨x66, ZGv, hF⟩ := bind_some hF
  obtain ⟨x67, ZB2, hF⟩ := bind_some hF
  obtain ⟨r68, ZzS, hF⟩ := bind_some hF
  refine nn ?_
  refine Or.inr (Exists.intro 13 (And.intro (by decide +kernel) ?_))
  refine Or.inl (Exists.intro 11 (Exists.intro [[], [], [], [], [], [], [], [], [], [], []] (Exists.intro [([58, 59, 60, 61, 62, 63, 64, 65, 66, 67, 68], [], []), ([58, 59, 60, 61, 62, 63, 64, 65, 66, 67, 68], [], []), ([58, 60, 61, 62, 63, 64, 65, 66, 67, 68], [], []), ([58, 59, 60, 61, 62, 63, 64, 65, 66, 67, 68], [], []), ([58, 62, 63, 64, 65, 66, 67, 68], [], []), ([58, 63, 64, 65, 66, 67, 68], [], []), ([58, 59, 60, 61, 62, 63, 64, 65, 66, 67, 68], [], []), ([58, 59, 60, 61, 62, 63, 65, 66, 67, 68], [], []), ([58, 59, 60, 61, 62, 63, 64, 65, 66, 67, 68], [], []), ([58, 59, 60, 61, 62, 63, 67, 68], [], []), ([58, 59, 60, 61, 62, 63, 68], [], [])] (Exists.intro [58, 59, 60, 61, 62, 63, 64, 65, 66, 67, 68] (And.intro (by decide +kernel) ?_)))))
  refine dp ?_
  refine dp ?_
  refine dp ?_
  refine dp ?_
  refine dr (ZX (Za.cells_eq x66) ZGv) ?_
  refine dp ?_
  refine dp ?_
  refine dp ?_
  refine dp ?_
  refine dr (ZX (Za.cells_eq x67) ZB2) ?_
  refine dp ?_
  refine st ?_
  refine Exists.intro [] (Exists.intro [(6000, 7000)] (Exists.intro [] ?_))
  refine st ?_
  refine cm (Zk.weak (rn []) (ZlL ZdG x66 x67 _ ZzS) rfl (WS.mk (Zd (Zq (Z2 (by first | exact rfl | simp only [List.length_set]))) (Zd (Zp (lc (lc (lc (lc Zn))))) (Zd (Zp (lc (lc (lc (lc Zn))))) Zb))) (Zf rfl (cc Zg) Zc))) ?_
  refine st ?_
  refine Or.inl (Exists.intro 3 (Exists.intro [[], [], []] (Exists.intro [([70, 71, 0], [], []), ([70, 71, 0], [], []), ([71, 0], [], [])] (Exists.intro [70, 71, 0] (And.intro (by decide +kernel) ?_)))))
  refine dp ?_
  refine dp ?_
  refine dp ?_
  refine st ?_
  obtain ⟨ZyC, hF⟩ := Zv hF
  refine ns ?_
  refine AWL.weak (rn []) ?_ (Zld r68.2.1 (ZfU + 1) p t r68.2.2 _ hF)
  exact (WS.mk (Zd (Zq (Z2 (by first | exact rfl | simp only [List.length_set]))) (tp (tp (tc (Zd (Zq (Zc0 (ZcZ ZyC))) Zb))))) (Zf rfl (cc (cc (cc (cc Zg)))) (Zf rfl (cc (cc (cc (cc Zg)))) (Zf rfl (cc Zg) Zc))))
 ·refine nw ?_
  refine AWP.seq ?_
  refine ns ?_
  obtain rfl := Zh hF
  refine ns ?_
  refine Exists.intro [(6000, 2000)] ?_
  refine st ?_
  exact wx (WS.mk (Zd (Zca (ZbI (Z2 (by first | exact rfl | simp only [List.length_set])) (ZbI (WE.refl _) Zb8))) Zb) (Zf rfl (cc Zg) Zc))

def ZbX (p : Za) (t : Za) : Option ((List Ze) × Bool) :=
 if (p.fOp == 1) = true then
 ZbR ([] : List Ze) p.fName >>= fun r10 =>
 if (decide (r10 ≥ 0)) = true then
 none
 else
 ZV ((([] : List Ze).length + ([(Ze.mk p.fName t)]).length) * 88 ≤ 140737488355328) >>= fun _ =>
 some (([] : List Ze) ++ ([(Ze.mk p.fName t)]), true)
 else
 if ((p.fOp != t.fOp) || (!(p.fName.toList == t.fName.toList))) = true then
 some (([] : List Ze), false)
 else
 Z6 true 0 p t ([] : List Ze)
def ZbX.M (p : Za) (t : Za) (r : (List Ze) × Bool) : Prop :=
 Zk Tryz.prog 48 [.c none (.nils), .agg [.v (.int .i64 p.fOp), .v (.string p.fName), .sl (p.fBound.fArgs.map Zj.cells), .sl (p.fKids.map Za.cells)], .agg [.v (.int .i64 t.fOp), .v (.string t.fName), .sl (t.fBound.fArgs.map Zj.cells), .sl (t.fKids.map Za.cells)]] [] (fun d b => d = .tup [.c (.rs 2000 r.1.length), .c (.v (.bool r.2))] ∧ b = [(2000, [(none, .ob 90 (r.1.map Ze.cells))])])
theorem Zm8 (p : Za) (t : Za) (r : (List Ze) × Bool) (hF : ZbX p t = some r) : ZbX.M p t r := by
 unfold ZbX at hF
 unfold ZbX.M
 refine en Tryz.func48 ?_
 refine AWP.seq ?_
 refine ns ?_
 refine AWP.thaw 0 6000 45 rfl ?_
 refine AWP.force ?_
 (conv => whnf)
 refine AWP.seq ?_
 refine AWP.seq ?_
 refine ns ?_
 refine nw ?_
 refine Zi hF (fun hc7 hF => ?_) (fun hc7 hF => ?_)
 ·refine AWP.seq ?_
  refine AWP.seq ?_
  obtain ⟨r10, Zqu, hF⟩ := bind_some hF
  refine ns ?_
  refine Exists.intro [] (Exists.intro [(6000, 1000)] (Exists.intro [] ?_))
  refine st ?_
  refine cm (Zk.weak (rn []) (Zir ([] : List Ze) p.fName _ Zqu) rfl (WS.mk (Zd (Zq (Z2 (by first | exact rfl | simp only [List.length_set]))) (tc Zb)) (Zf rfl (cc Zg) Zc))) ?_
  refine st ?_
  refine AWP.seq ?_
  refine ns ?_
  refine nw ?_
  refine Zi hF (fun Zct hF => ?_) (fun Zct hF => ?_)
  ·refine AWP.seq ?_
   cases hF
  ·refine nw ?_
   refine AWP.seq ?_
   obtain ⟨Zyy, hF⟩ := Zv hF
   refine ns ?_
   refine Exists.intro _ (And.intro (Zcb (f := Ze.cells) (ZdW (Ze.cells_eq (Ze.mk p.fName t)) (lc (lc (lc (lc (lc Zn)))))) (Zap (f := Ze.cells))) ?_)
   refine sa (fun l => ZbH l (fun x => Ze.cells_len x)) Zyy ?_
   refine Exists.intro (([(Ze.mk p.fName t)]).map Ze.cells) (Exists.intro ((([] : List Ze) ++ ([(Ze.mk p.fName t)])).map Ze.cells) (Exists.intro (([] : List Ze) ++ ([(Ze.mk p.fName t)])).length (And.intro (WE.refl _) (And.intro (ZrJ (by first | exact rfl | simp only [List.length_set])) (And.intro (ZqA (by first | exact rfl | simp only [List.length_set]) (by first | exact List.length_map _ | exact rfl)) ?_)))))
   refine st ?_
   obtain rfl := Zh hF
   refine ns ?_
   refine Exists.intro [(6000, 2000)] ?_
   refine st ?_
   exact wx (WS.mk (Zd (Zca (ZbI (Z2 (by first | exact rfl | simp only [List.length_set])) (ZbI (WE.refl _) Zb8))) Zb) (Zf rfl (cc Zg) Zc))
 ·refine nw ?_
  refine AWP.seq ?_
  refine AWP.seq ?_
  refine AWP.cutN (fun T => ∃ r, WS r T ⟨[(0, .c none (.rs 6000 (([] : List Ze).length))), (4, .ptr 4 0), (5, .ptr 5 0), (46, .c none (.v (.bool ((p.fOp != t.fOp) || (!(p.fName.toList == t.fName.toList))))))], [(4, [(none, .v (.int .i64 p.fOp)), (none, .v (.string p.fName)), (none, .sl (p.fBound.fArgs.map Zj.cells)), (none, .sl (p.fKids.map Za.cells))]), (5, [(none, .v (.int .i64 t.fOp)), (none, .v (.string t.fName)), (none, .sl (t.fBound.fArgs.map Zj.cells)), (none, .sl (t.fKids.map Za.cells))]), (6000, [(none, .ob 90 (([] : List Ze).map Ze.cells))])]⟩) ?_ (fun T hw => ?_)
  ·refine ns ?_
   refine Zl false (fun Zc8 => ?_) (fun Zc8 => ?_)
   ·(conv => whnf)
    refine st ?_
    exact wx (WS.mk (Zd (Zq (Z2 (by first | exact rfl | simp only [List.length_set]))) (tp (tp (Zd (Zq (web Zc8)) Zb)))) (Zf rfl (cc (cc (cc (cc Zg)))) (Zf rfl (cc (cc (cc (cc Zg)))) (Zf rfl (cc Zg) Zc))))
   ·(conv => whnf)
    refine st ?_
    exact wx (WS.mk (Zd (Zq (Z2 (by first | exact rfl | simp only [List.length_set]))) (tp (tp (Zd (Zq (web Zc8)) Zb)))) (Zf rfl (cc (cc (cc (cc Zg)))) (Zf rfl (cc (cc (cc (cc Zg)))) (Zf rfl (cc Zg) Zc))))
  obtain ⟨r0, hw⟩ := hw
  (conv => whnf)
  refine AWP.weak r0 hw ?_
  refine nw ?_
  refine Zi hF (fun Zff hF => ?_) (fun Zff hF => ?_)
  ·refine AWP.seq ?_
   refine ns ?_
   refine AWP.thaw 6 6006 45 rfl ?_
   refine AWP.force ?_
   (conv => whnf)
   obtain rfl := Zh hF
   refine ns ?_
   refine Exists.intro [(6006, 2000)] ?_
   refine st ?_
   exact wx (WS.mk (Zd (Zca (ZbI (Z2 (by first | exact rfl | simp only [List.length_set])) (ZbI (WE.refl _) Zb8))) Zb) (Zf rfl (cc Zg) Zc))
  ·refine nw ?_
   refine AWP.seq ?_
   refine ns ?_
   refine AWP.seq ?_
   refine AWP.seq ?_
   refine ns ?_
   refine AWP.block ?_
   refine AWP.loop ?_
   refine AWL.weak (rn []) ?_ (Zks true 0 p t ([] : List Ze) _ hF)
   exact (WS.mk (Zd (Zq (Z2 (by first | exact rfl | simp only [List.length_set]))) (tp (tp (tc (tc Zb))))) (Zf rfl (cc (cc (cc (cc Zg)))) (Zf rfl (cc (cc (cc (cc Zg)))) (Zf rfl (cc Zg) Zc))))

def Zci (Zei : (List Ze)) (l : (List Ze)) (x_8 : Nat) (ZaJ : (List Ze)) : Option ((List Ze)) :=
 (match ZaJ with
 | x17 :: Zvx =>
 Zbx x17.fType >>= fun r22 =>
 ZV ((Zei.length + ([(Ze.mk x17.fName r22)]).length) * 88 ≤ 140737488355328) >>= fun _ =>
 Zci (Zei ++ ([(Ze.mk x17.fName r22)])) l (x_8 + 1) Zvx
 | [] =>
 some Zei)
 partial_fixpoint
def Zci.M (Zei : (List Ze)) (l : (List Ze)) (x_8 : Nat) (ZaJ : (List Ze)) (r : (List Ze)) : Prop :=
 ∀ Zdc : List Ze, l = Zdc ++ ZaJ → x_8 = Zdc.length → l.length ≤ maxLen → AWL Tryz.prog 23 (Code.sub (Zr Tryz.f33) [1, 1, 0, 1, 0, 0]) (Code.cont Tryz.prog 23 (Zr Tryz.f33) [1, 1, 0, 1, 0] (ZbV tab Tryz.f33.results (Zb0 (.c (some (0, 45)) (.sl (r.map Ze.cells))) []))) ⟨[(3, .c (some (3, 45)) (.sl (Zei.map Ze.cells))), (6, .c none (.sl (l.map Ze.cells))), (7, .c none (.v (.int .i64 ((l.length : Nat) : Int)))), (8, .c none (.v (.int .i64 ((x_8 : Nat) : Int))))], []⟩
theorem Zn0 (Zei : (List Ze)) (l : (List Ze)) (x_8 : Nat) (ZaJ : (List Ze)) : ∀ r, Zci Zei l x_8 ZaJ = some r → Zci.M Zei l x_8 ZaJ r := by
 refine Zci.partial_correctness l (fun Zei x_8 ZaJ r => Zci.M Zei l x_8 ZaJ r) ?_ Zei x_8 ZaJ
 intro unify_fresh__l1' Zix Zei x_8 ZaJ r hF
 have Zns := fun (Zei : (List Ze)) (_l : (List Ze)) (x_8 : Nat) (ZaJ : (List Ze)) => Zix Zei x_8 ZaJ
 clear Zix
 unfold Zci.M
 intro Zdc Zht Zg4 hlen1
 refine AWL.step ?_
 refine AWP.seq ?_
 refine ns ?_
 refine AWP.seq ?_
 refine nw ?_
 refine ZF Zht Zg4 (fun x17 Zvx Zvw ZAX ZBp => ?_) (fun Zvw => ?_)
 ·subst Zvw
  refine nw ?_
  refine AWP.seq ?_
  refine AWP.block ?_
  refine AWP.seq ?_
  refine nn ?_
  refine sr (ZX (f := Ze.cells) (Ze.cells_eq x17) ZAX) ?_
  refine st ?_
  obtain ⟨r22, Zvy, hF⟩ := bind_some hF
  obtain ⟨ZCL, hF⟩ := Zv hF
  refine nn ?_
  refine Or.inl (Or.inl (Exists.intro 8 (Exists.intro [[], [], [], [], [], [], [], []] (Exists.intro [([12, 13, 14, 15, 16, 17, 18, 19], [], []), ([12, 13, 14, 15, 16, 17, 18, 19], [], []), ([12, 14, 15, 16, 17, 18, 19], [], []), ([12, 13, 14, 15, 16, 17, 18, 19], [], []), ([12, 13, 14, 16, 17, 18, 19], [], []), ([12, 13, 14, 17, 18, 19], [], []), ([12, 18, 19], [], []), ([12, 19], [], [])] (Exists.intro [12, 13, 14, 15, 16, 17, 18, 19] (And.intro (by decide +kernel) ?_))))))
  refine dp ?_
  refine dp ?_
  refine dp ?_
  refine dp ?_
  refine dp ?_
  (refine st ?_; apply Exists.intro; apply Exists.intro; apply And.intro; (focus ((conv => whnf); refine Exists.intro [] ?_; (conv => whnf); refine And.intro rfl ?_; (conv => whnf); refine Zk.mono (Zk.weak (rn []) (Zlt x17.fType _ Zvy) rfl (WS.mk (Zd (Zp (lc (lc (lc (lc Zn))))) Zb) Zc)) ?_; rintro d b ⟨rfl, rfl⟩; exact And.intro rfl (And.intro rfl rfl))); apply And.intro; (focus exact rfl); (conv => whnf))
  refine dp ?_
  refine de (Zcb (f := Ze.cells) (ZdW (Ze.cells_eq (Ze.mk x17.fName r22)) (lc (lc (lc (lc (lc Zn)))))) (Zap (f := Ze.cells))) ?_
  refine sa (fun l => ZbH l (fun x => Ze.cells_len x)) ZCL ?_
  refine Exists.intro _ (And.intro (WE.refl _) ?_)
  rw [← List.map_append]
  refine st ?_
  refine ns ?_
  refine AWL.weak (rn [(20, 3)]) ?_ (Zns (Zei ++ ([(Ze.mk x17.fName r22)])) l (x_8 + 1) Zvx _ hF (Zdc ++ [x17]) (by rw [Zht]; simp) (by rw [Zg4]; simp) hlen1)
  exact (WS.mk (Zd (ZaC rfl (WE.refl _)) (tc (tc (Zd (Zq (Zc0 (ZP hlen1 ZBp))) Zb)))) Zc)
 ·subst Zvw
  refine nw ?_
  refine AWP.seq ?_
  refine ns ?_
  obtain rfl := Zh hF
  refine ns ?_
  refine Exists.intro [] ?_
  refine st ?_
  exact Exists.intro (rn [(3, 0)]) (WS.mk (Zd (ZaC rfl (WE.refl _)) Zb) Zc)

def ZdY (l : (List Ze)) : Option ((List Ze)) :=
 Zci ([]) l 0 l
def ZdY.M (l : (List Ze)) (r : (List Ze)) : Prop :=
 Zk Tryz.prog 33 [.c none (.sl (l.map Ze.cells))] [] (fun d b => d = .c (some (0, 45)) (.sl (r.map Ze.cells)) ∧ b = [])
theorem ZpM (l : (List Ze)) (r : (List Ze)) (hF : ZdY l = some r) : ZdY.M l r := by
 unfold ZdY at hF
 unfold ZdY.M
 refine en Tryz.func33 ?_
 refine AWP.seq ?_
 refine ns ?_
 refine AWP.seq ?_
 refine ns ?_
 refine AWP.seq ?_
 refine AWP.seq ?_
 refine ns ?_
 intro hlen1
 (try rw [List.length_map] at hlen1)
 (try rw [List.length_map])
 refine st ?_
 refine AWP.block ?_
 refine AWP.loop ?_
 refine AWL.weak (rn []) ?_ (Zn0 ([]) l 0 l _ hF ([]) rfl rfl hlen1)
 exact (WS.mk (Zd ZjS (tc (tc (tc Zb)))) Zc)

def Zd8 (pattern : Za) (t : Za) : Option ((List Ze) × Int) :=
 Zcz pattern >>= fun r5 =>
 (if (!r5) = true then some true else Zcz t >>= fun r6 =>
 some (!r6)) >>= fun c7 =>
 if c7 = true then
 some (([] : List Ze), 1)
 else
 Zag (Zbj.mk ([] : List Ze) ([] : List (ByteArray × Int))) pattern t >>= fun r12 =>
 if (!r12.1) = true then
 some (([] : List Ze), 22)
 else
 ZdY r12.2.flist >>= fun r14 =>
 some (r14, 0)
def Zd8.M (pattern : Za) (t : Za) (r : (List Ze) × Int) : Prop :=
 Zk Tryz.prog 24 [.agg [.v (.int .i64 pattern.fOp), .v (.string pattern.fName), .sl (pattern.fBound.fArgs.map Zj.cells), .sl (pattern.fKids.map Za.cells)], .agg [.v (.int .i64 t.fOp), .v (.string t.fName), .sl (t.fBound.fArgs.map Zj.cells), .sl (t.fKids.map Za.cells)]] [] (fun d b => d = .tup [.c (.sl (r.1.map Ze.cells)), .c (.v (.int .i64 r.2))] ∧ b = [])
theorem Zrh (pattern : Za) (t : Za) (r : (List Ze) × Int) (hF : Zd8 pattern t = some r) : Zd8.M pattern t r := by
 unfold Zd8 at hF
 unfold Zd8.M
 refine en Tryz.func24 ?_
 refine AWP.seq ?_
 refine ns ?_
 refine AWP.seq ?_
 refine AWP.seq ?_
 obtain ⟨r5, hr5, hF⟩ := bind_some hF
 obtain ⟨c7, hc7, hF⟩ := bind_some hF
 refine AWP.cutN (fun T => ∃ r, WS r T ⟨[(2, .ptr 2 0), (3, .ptr 3 0), (14, .c none (.v (.bool c7)))], [(2, [(none, .v (.int .i64 pattern.fOp)), (none, .v (.string pattern.fName)), (none, .sl (pattern.fBound.fArgs.map Zj.cells)), (none, .sl (pattern.fKids.map Za.cells))]), (3, [(none, .v (.int .i64 t.fOp)), (none, .v (.string t.fName)), (none, .sl (t.fBound.fArgs.map Zj.cells)), (none, .sl (t.fKids.map Za.cells))])]⟩) ?_ (fun T hw => ?_)
 ·refine ns ?_
  refine e3 ?_
  refine st ?_
  refine cm (Zk.weak (rn []) (Zgs pattern _ hr5) rfl (WS.mk (Zd (Zp (lc (lc (lc (lc Zn))))) Zb) Zc)) ?_
  refine st ?_
  refine Zl false (fun hc8 => ?_) (fun hc8 => ?_)
  ·have hc7 := ift hc8 hc7
   (conv => whnf)
   obtain rfl := Zh hc7
   refine st ?_
   exact wx (WS.mk (tp (tp (Zd (Zq (web hc8)) Zb))) (Zf rfl (cc (cc (cc (cc Zg)))) (Zf rfl (cc (cc (cc (cc Zg)))) Zc)))
  ·have hc7 := ife hc8 hc7
   obtain ⟨r6, hr6, hc7⟩ := bind_some hc7
   (conv => whnf)
   refine st ?_
   refine e3 ?_
   refine st ?_
   refine cm (Zk.weak (rn []) (Zgs t _ hr6) rfl (WS.mk (Zd (Zp (lc (lc (lc (lc Zn))))) Zb) Zc)) ?_
   refine st ?_
   obtain rfl := Zh hc7
   refine st ?_
   exact wx (WS.mk (tp (tp (Zd (Zq (web hc8)) Zb))) (Zf rfl (cc (cc (cc (cc Zg)))) (Zf rfl (cc (cc (cc (cc Zg)))) Zc)))
 obtain ⟨r0, hw⟩ := hw
 (conv => whnf)
 refine AWP.weak r0 hw ?_
 refine nw ?_
 refine Zi hF (fun hc9 hF => ?_) (fun hc9 hF => ?_)
 ·refine AWP.seq ?_
  refine ns ?_
  obtain rfl := Zh hF
  refine ns ?_
  refine Exists.intro [] ?_
  refine st ?_
  exact wx (WS.mk (Zd (Zca (ZbI WE.nil (ZbI (WE.refl _) Zb8))) Zb) Zc)
 ·refine nw ?_
  refine AWP.seq ?_
  refine ns ?_
  refine AWP.seq ?_
  refine AWP.seq ?_
  obtain ⟨r12, ZuY, hF⟩ := bind_some hF
  refine ns ?_
  refine Exists.intro [] (Exists.intro [(17, 1000), (15, 1001)] (Exists.intro [] ?_))
  refine st ?_
  refine cm (Zk.weak (rn []) (Zle (Zbj.mk ([] : List Ze) ([] : List (ByteArray × Int))) pattern t _ ZuY) rfl (WS.mk (tp (Zd (Zp (lc (lc (lc (lc Zn))))) (Zd (Zp (lc (lc (lc (lc Zn))))) Zb))) (Zf rfl (Zj2 (cc Zg)) (Zf rfl (cc Zg) Zc)))) ?_
  refine st ?_
  refine nw ?_
  refine Zi hF (fun ZcB hF => ?_) (fun ZcB hF => ?_)
  ·refine AWP.seq ?_
   refine ns ?_
   obtain rfl := Zh hF
   refine ns ?_
   refine Exists.intro [] ?_
   refine st ?_
   exact wx (WS.mk (Zd (Zca (ZbI WE.nil (ZbI (WE.refl _) Zb8))) Zb) Zc)
  ·refine nw ?_
   refine AWP.seq ?_
   obtain ⟨r14, Zpa, hF⟩ := bind_some hF
   refine ns ?_
   refine Exists.intro [3000] (Exists.intro [] (Exists.intro [] ?_))
   refine st ?_
   refine cm (Zk.weak (rn []) (ZpM r12.2.flist _ Zpa) rfl (WS.mk (tc Zb) Zc)) ?_
   refine st ?_
   obtain rfl := Zh hF
   refine ns ?_
   refine Exists.intro [] ?_
   refine st ?_
   exact wx (WS.mk (Zd (Zca (ZbI (WE.refl _) (ZbI (WE.refl _) Zb8))) Zb) Zc)

def Zcj (pattern : Za) (t : Za) : Option ((List Ze) × Int) :=
 Zbw pattern >>= fun r5 =>
 (if (!r5) = true then some true else Zbw t >>= fun r6 =>
 some (!r6)) >>= fun c7 =>
 if c7 = true then
 some (([] : List Ze), 1)
 else
 ZbX pattern t >>= fun r10 =>
 if (!r10.2) = true then
 some (([] : List Ze), 22)
 else
 some (r10.1, 0)
def Zcj.M (pattern : Za) (t : Za) (r : (List Ze) × Int) : Prop :=
 Zk Tryz.prog 25 [.agg [.v (.int .i64 pattern.fOp), .v (.string pattern.fName), .sl (pattern.fBound.fArgs.map Zj.cells), .sl (pattern.fKids.map Za.cells)], .agg [.v (.int .i64 t.fOp), .v (.string t.fName), .sl (t.fBound.fArgs.map Zj.cells), .sl (t.fKids.map Za.cells)]] [] (fun d b => d = .tup [.c (.sl (r.1.map Ze.cells)), .c (.v (.int .i64 r.2))] ∧ b = [])
theorem Znc (pattern : Za) (t : Za) (r : (List Ze) × Int) (hF : Zcj pattern t = some r) : Zcj.M pattern t r := by
 unfold Zcj at hF
 unfold Zcj.M
 refine en Tryz.func25 ?_
 refine AWP.seq ?_
 refine ns ?_
 refine AWP.seq ?_
 refine AWP.seq ?_
 obtain ⟨r5, hr5, hF⟩ := bind_some hF
 obtain ⟨c7, hc7, hF⟩ := bind_some hF
 refine AWP.cutN (fun T => ∃ r, WS r T ⟨[(2, .ptr 2 0), (3, .ptr 3 0), (15, .c none (.v (.bool c7)))], [(2, [(none, .v (.int .i64 pattern.fOp)), (none, .v (.string pattern.fName)), (none, .sl (pattern.fBound.fArgs.map Zj.cells)), (none, .sl (pattern.fKids.map Za.cells))]), (3, [(none, .v (.int .i64 t.fOp)), (none, .v (.string t.fName)), (none, .sl (t.fBound.fArgs.map Zj.cells)), (none, .sl (t.fKids.map Za.cells))])]⟩) ?_ (fun T hw => ?_)
 ·refine ns ?_
  refine e3 ?_
  refine st ?_
  refine cm (Zk.weak (rn []) (Zh5 pattern _ hr5) rfl (WS.mk (Zd (Zp (lc (lc (lc (lc Zn))))) Zb) Zc)) ?_
  refine st ?_
  refine Zl false (fun hc8 => ?_) (fun hc8 => ?_)
  ·have hc7 := ift hc8 hc7
   (conv => whnf)
   obtain rfl := Zh hc7
   refine st ?_
   exact wx (WS.mk (tp (tp (Zd (Zq (web hc8)) Zb))) (Zf rfl (cc (cc (cc (cc Zg)))) (Zf rfl (cc (cc (cc (cc Zg)))) Zc)))
  ·have hc7 := ife hc8 hc7
   obtain ⟨r6, hr6, hc7⟩ := bind_some hc7
   (conv => whnf)
   refine st ?_
   refine e3 ?_
   refine st ?_
   refine cm (Zk.weak (rn []) (Zh5 t _ hr6) rfl (WS.mk (Zd (Zp (lc (lc (lc (lc Zn))))) Zb) Zc)) ?_
   refine st ?_
   obtain rfl := Zh hc7
   refine st ?_
   exact wx (WS.mk (tp (tp (Zd (Zq (web hc8)) Zb))) (Zf rfl (cc (cc (cc (cc Zg)))) (Zf rfl (cc (cc (cc (cc Zg)))) Zc)))
 obtain ⟨r0, hw⟩ := hw
 (conv => whnf)
 refine AWP.weak r0 hw ?_
 refine nw ?_
 refine Zi hF (fun hc9 hF => ?_) (fun hc9 hF => ?_)
 ·refine AWP.seq ?_
  refine ns ?_
  obtain rfl := Zh hF
  refine ns ?_
  refine Exists.intro [] ?_
  refine st ?_
  exact wx (WS.mk (Zd (Zca (ZbI WE.nil (ZbI (WE.refl _) Zb8))) Zb) Zc)
 ·refine nw ?_
  refine AWP.seq ?_
  obtain ⟨r10, Zqu, hF⟩ := bind_some hF
  refine ns ?_
  refine Exists.intro [] (Exists.intro [] (Exists.intro [(2000, 19)] ?_))
  refine st ?_
  refine cm (Zk.weak (rn []) (Zm8 pattern t _ Zqu) rfl (WS.mk (tc (Zd (Zp (lc (lc (lc (lc Zn))))) (Zd (Zp (lc (lc (lc (lc Zn))))) Zb))) Zc)) ?_
  refine st ?_
  refine AWP.freeze 6 19 45 rfl rfl (by simp only [List.length_map]) ?_
  refine AWP.force ?_
  (conv => whnf)
  refine AWP.seq ?_
  refine AWP.seq ?_
  refine ns ?_
  refine nw ?_
  refine Zi hF (fun Zct hF => ?_) (fun Zct hF => ?_)
  ·refine AWP.seq ?_
   refine ns ?_
   obtain rfl := Zh hF
   refine ns ?_
   refine Exists.intro [] ?_
   refine st ?_
   exact wx (WS.mk (Zd (Zca (ZbI WE.nil (ZbI (WE.refl _) Zb8))) Zb) Zc)
  ·refine nw ?_
   refine AWP.seq ?_
   refine ns ?_
   obtain rfl := Zh hF
   refine ns ?_
   refine Exists.intro [] ?_
   refine st ?_
   exact wx (WS.mk (Zd (Zca (ZbI (WE.refl _) (ZbI (WE.refl _) Zb8))) Zb) Zc)

def ZbJ (p : Za) (t : Za) : Option (Bool) :=
 Zc9 ([p, t]) >>= fun r4 =>
 if (!r4) = true then
 Zb5 >>= fun r6 =>
 some r6
 else
 Zd8 p t >>= fun r7 =>
 Zcj p t >>= fun r8 =>
 (if (r7.2 == r8.2) = true then Zcg r7.1 r8.1 >>= fun r17 =>
 some r17 else some false) >>= fun c18 =>
 (if c18 = true then (if (r7.2 != 0) = true then some true else ZcP r7.1 p >>= fun r19 =>
 ZaO r19 t >>= fun r20 =>
 some r20) >>= fun c21 =>
 some c21 else some false) >>= fun c22 =>
 (if c22 = true then Zb5 >>= fun r23 =>
 some r23 else some false) >>= fun c24 =>
 some c24
def ZbJ.M (p : Za) (t : Za) (r : Bool) : Prop :=
 Zk Tryz.prog 8 [.agg [.v (.int .i64 p.fOp), .v (.string p.fName), .sl (p.fBound.fArgs.map Zj.cells), .sl (p.fKids.map Za.cells)], .agg [.v (.int .i64 t.fOp), .v (.string t.fName), .sl (t.fBound.fArgs.map Zj.cells), .sl (t.fKids.map Za.cells)]] [] (fun d b => d = .c none (.v (.bool r)) ∧ b = [])
theorem ZjQ (p : Za) (t : Za) (r : Bool) (hF : ZbJ p t = some r) : ZbJ.M p t r := by
 unfold ZbJ at hF
 unfold ZbJ.M
 refine en Tryz.func8 ?_
 refine AWP.seq ?_
 refine ns ?_
 refine AWP.seq ?_
 refine AWP.seq ?_
 obtain ⟨r4, hr4, hF⟩ := bind_some hF
 refine ns ?_
 refine Exists.intro _ (And.intro (Zcb (f := Za.cells) (ZdW (Za.cells_eq p) (lc (lc (lc (lc Zn))))) (Zcb (f := Za.cells) (ZdW (Za.cells_eq t) (lc (lc (lc (lc Zn))))) (Zap (f := Za.cells)))) ?_)
 refine st ?_
 refine Exists.intro [11] (Exists.intro [] (Exists.intro [] ?_))
 refine st ?_
 refine cm (Zk.weak (rn []) (Zm4 ([p, t]) _ hr4) rfl (WS.mk (tc Zb) Zc)) ?_
 refine st ?_
 refine nw ?_
 refine Zi hF (fun hc5 hF => ?_) (fun hc5 hF => ?_)
 ·refine AWP.seq ?_
  obtain ⟨r6, hr6, hF⟩ := bind_some hF
  refine ns ?_
  refine e3 ?_
  refine st ?_
  refine cm (Zk.weak (rn []) (Zfl _ hr6) rfl (WS.mk Zb Zc)) ?_
  refine st ?_
  obtain rfl := Zh hF
  refine ns ?_
  refine Exists.intro [] ?_
  refine st ?_
  exact wx (WS.mk (tc Zb) Zc)
 ·refine nw ?_
  refine AWP.seq ?_
  obtain ⟨r7, hr7, hF⟩ := bind_some hF
  refine ns ?_
  refine e3 ?_
  refine st ?_
  refine cm (Zk.weak (rn []) (Zrh p t _ hr7) rfl (WS.mk (Zd (Zp (lc (lc (lc (lc Zn))))) (Zd (Zp (lc (lc (lc (lc Zn))))) Zb)) Zc)) ?_
  refine st ?_
  refine AWP.seq ?_
  obtain ⟨r8, hr8, hF⟩ := bind_some hF
  refine ns ?_
  refine e3 ?_
  refine st ?_
  refine cm (Zk.weak (rn []) (Znc p t _ hr8) rfl (WS.mk (Zd (Zp (lc (lc (lc (lc Zn))))) (Zd (Zp (lc (lc (lc (lc Zn))))) Zb)) Zc)) ?_
  refine st ?_
  refine AWP.seq ?_
  obtain ⟨c18, ZgZ, hF⟩ := bind_some hF
  obtain ⟨c22, Zjq, hF⟩ := bind_some hF
  obtain ⟨c24, Zik, hF⟩ := bind_some hF
  refine AWP.cutN (fun T => ∃ r, WS r T ⟨[(4, .c none (.v (.bool c24)))], []⟩) ?_ (fun T hw => ?_)
  ·refine nn ?_
   refine Or.inl (Or.inl (Exists.intro 16 (Exists.intro [[], [], [], [], [], [], [], [], [], [], [], [], [], [], [], []] (Exists.intro [([27, 28, 29, 30, 31, 32, 33, 34, 35, 36, 37, 38, 39, 40, 41, 42], [], []), ([27, 28, 29, 30, 31, 32, 33, 34, 35, 36, 37, 38, 39, 40, 41, 42], [], []), ([29, 30, 31, 32, 33, 34, 35, 36, 37, 38, 39, 40, 41, 42], [], []), ([30, 31, 32, 33, 34, 35, 36, 37, 38, 39, 40, 41, 42], [], []), ([31, 32, 33, 34, 35, 36, 37, 38, 39, 40, 41, 42], [], []), ([31, 32, 33, 34, 35, 36, 37, 38, 39, 40, 41, 42], [], []), ([33, 34, 35, 36, 37, 38, 39, 40, 41, 42], [], []), ([34, 35, 36, 37, 38, 39, 40, 41, 42], [], []), ([35, 36, 37, 38, 39, 40, 41, 42], [], []), ([36, 37, 38, 39, 40, 41, 42], [], []), ([37, 38, 39, 40, 41, 42], [], []), ([38, 39, 40, 41, 42], [], []), ([39, 40, 41, 42], [], []), ([39, 40, 41, 42], [], []), ([41, 42], [], []), ([39, 40, 41, 42], [], [])] (Exists.intro [27, 28, 29, 30, 31, 32, 33, 34, 35, 36, 37, 38, 39, 40, 41, 42] (And.intro (by decide +kernel) ?_))))))
   refine dp ?_
   refine dp ?_
   refine dp ?_
   refine dp ?_
   refine st ?_
   refine Zl true (fun ZeM => ?_) (fun ZeM => ?_)
   ·have ZgZ := ift ZeM ZgZ
    obtain ⟨r17, ZBE, ZgZ⟩ := bind_some ZgZ
    (conv => whnf)
    refine dp ?_
    refine dp ?_
    (refine st ?_; apply Exists.intro; apply Exists.intro; apply And.intro; (focus ((conv => whnf); refine Exists.intro [] ?_; (conv => whnf); refine And.intro rfl ?_; (conv => whnf); refine Zk.mono (Zk.weak (rn []) (ZnN r7.1 r8.1 _ ZBE) rfl (WS.mk (tc (tc Zb)) Zc)) ?_; rintro d b ⟨rfl, rfl⟩; exact And.intro rfl (And.intro rfl rfl))); apply And.intro; (focus exact rfl); (conv => whnf))
    obtain rfl := Zh ZgZ
    refine dp ?_
    refine dp ?_
    refine st ?_
    refine Zl true (fun ZfB => ?_) (fun ZfB => ?_)
    ·have Zjq := ift (And.intro ZeM ZfB) Zjq
     obtain ⟨c21, Zkb, Zjq⟩ := bind_some Zjq
     (conv => whnf)
     refine dp ?_
     refine dp ?_
     refine dp ?_
     refine st ?_
     refine Zl false (fun Zky => ?_) (fun Zky => ?_)
     ·have Zkb := ift (And.intro ZeM (And.intro ZfB Zky)) Zkb
      (conv => whnf)
      obtain rfl := Zh Zkb
      obtain rfl := Zh Zjq
      have Zik := ift (And.intro ZeM (And.intro ZfB Zky)) Zik
      obtain ⟨r23, Ztc, Zik⟩ := bind_some Zik
      refine st ?_
      refine e3 ?_
      refine st ?_
      refine cm (Zk.weak (rn []) (Zfl _ Ztc) rfl (WS.mk Zb Zc)) ?_
      refine st ?_
      obtain rfl := Zh Zik
      refine st ?_
      exact wx (WS.mk (Zd (Zq (web (And.intro ZeM (And.intro ZfB Zky)))) Zb) Zc)
     ·have Zkb := ife (And.intro ZeM (And.intro ZfB Zky)) Zkb
      obtain ⟨r19, ZqJ, Zkb⟩ := bind_some Zkb
      obtain ⟨r20, Zzt, Zkb⟩ := bind_some Zkb
      (conv => whnf)
      refine dp ?_
      refine dp ?_
      (refine st ?_; apply Exists.intro; apply Exists.intro; apply And.intro; (focus ((conv => whnf); refine Exists.intro [] ?_; (conv => whnf); refine And.intro rfl ?_; (conv => whnf); refine Zk.mono (Zk.weak (rn []) (Zm9 r7.1 p _ ZqJ) rfl (WS.mk (tc (Zd (Zp (lc (lc (lc (lc Zn))))) Zb)) Zc)) ?_; rintro d b ⟨rfl, rfl⟩; exact And.intro rfl (And.intro rfl rfl))); apply And.intro; (focus exact rfl); (conv => whnf))
      refine dp ?_
      refine st ?_
      refine e3 ?_
      refine st ?_
      refine cm (Zk.weak (rn []) (Zf7 r19 t _ Zzt) rfl (WS.mk (Zd (Zp (lc (lc (lc (lc Zn))))) (Zd (Zp (lc (lc (lc (lc Zn))))) Zb)) Zc)) ?_
      refine st ?_
      obtain rfl := Zh Zkb
      obtain rfl := Zh Zjq
      refine st ?_
      refine Zl true (fun Zqw => ?_) (fun Zqw => ?_)
      ·have Zik := ift (And.intro ZeM (And.intro ZfB (And.intro Zky Zqw))) Zik
       obtain ⟨r23, Ztc, Zik⟩ := bind_some Zik
       (conv => whnf)
       refine st ?_
       refine e3 ?_
       refine st ?_
       refine cm (Zk.weak (rn []) (Zfl _ Ztc) rfl (WS.mk Zb Zc)) ?_
       refine st ?_
       obtain rfl := Zh Zik
       refine st ?_
       exact wx (WS.mk (Zd (Zq (web (And.intro ZeM (And.intro ZfB (And.intro Zky Zqw))))) Zb) Zc)
      ·have Zik := ife (And.intro ZeM (And.intro ZfB (And.intro Zky Zqw))) Zik
       (conv => whnf)
       obtain rfl := Zh Zik
       refine st ?_
       exact wx (WS.mk (Zd (Zq (web (And.intro ZeM (And.intro ZfB (And.intro Zky Zqw))))) Zb) Zc)
    ·have Zjq := ife (And.intro ZeM ZfB) Zjq
     (conv => whnf)
     obtain rfl := Zh Zjq
     have Zik := ife (And.intro ZeM ZfB) Zik
     obtain rfl := Zh Zik
     refine st ?_
     exact wx (WS.mk (Zd (Zq (web (And.intro ZeM ZfB))) Zb) Zc)
   ·have ZgZ := ife ZeM ZgZ
    (conv => whnf)
    obtain rfl := Zh ZgZ
    refine dp ?_
    refine dp ?_
    have Zjq := ife ZeM Zjq
    obtain rfl := Zh Zjq
    have Zik := ife ZeM Zik
    obtain rfl := Zh Zik
    refine st ?_
    exact wx (WS.mk (Zd (Zq (web ZeM)) Zb) Zc)
  obtain ⟨r0, hw⟩ := hw
  (conv => whnf)
  refine AWP.weak r0 hw ?_
  obtain rfl := Zh hF
  refine ns ?_
  refine Exists.intro [] ?_
  refine st ?_
  exact wx (WS.mk (tc Zb) Zc)

theorem Zm {α β : Type} (x : α) (f : α → Option β) : (some x >>= f) = f x := rfl
theorem Zdt {p : Prop} [Decidable p] {β : Type} (f : Unit → Option β) (h : p) : (ZV p >>= f) = f () := by unfold ZV; rw [if_pos h]; rfl
theorem ZfQ {a b : ByteArray} (h : a.data.toList = b.data.toList) : a = b := by
 obtain ⟨⟨l⟩⟩ := a; obtain ⟨⟨k⟩⟩ := b
 simp only at h; rw [h]
theorem ZaU (s : ByteArray) : s.toList = s.data.toList := by
 have key : ∀ (n i : Nat) (r : List UInt8), s.size - i = n → ByteArray.toList.loop s i r = r.reverse ++ s.data.toList.drop i := by
  intro n
  induction n with
  | zero =>
   intro i r h
   rw [ByteArray.toList.loop, if_neg (by omega), List.drop_eq_nil_of_le (by show s.data.toList.length ≤ i; simp; have : s.data.size = s.size := rfl; omega), List.append_nil]
  | succ n ih =>
   intro i r h
   have hi : i < s.size := by omega
   rw [ByteArray.toList.loop, if_pos hi, ih (i + 1) _ (by omega)]
   have hd : s.data.toList.drop i = s.data.toList[i]'(by simpa using hi) :: s.data.toList.drop (i + 1) := (List.drop_eq_getElem_cons (by simpa using hi))
   rw [hd]
   have : s.get! i = s.data.toList[i]'(by simpa using hi) := by
    have hi' : i < s.data.size := hi
    show s.data[i]! = _
    rw [getElem!_pos s.data i hi']; simp
   rw [this]; simp
 show ByteArray.toList.loop s 0 [] = _
 rw [key _ 0 [] rfl]; simp
theorem Zef (s : ByteArray) (k : Nat) : btI s ((k : Nat) : Int) = s.data.toList[k]? := by
 unfold btI
 rw [if_pos (Int.natCast_nonneg k), Int.toNat_natCast]
 rcases Nat.lt_or_ge k s.size with h | h
 ·rw [getElem?_pos s k h, List.getElem?_eq_getElem (by simpa using h)]; rfl
 ·rw [getElem?_neg s k (by omega), List.getElem?_eq_none (by simpa using h)]
theorem sz (s : ByteArray) : s.data.toList.length = s.size := by simp
def ZhG (c : UInt8) : Bool := decide (65 ≤ c.toNat) && decide (c.toNat ≤ 90)
def Zhp (c : UInt8) : Bool := decide (97 ≤ c.toNat) && decide (c.toNat ≤ 122)
def Zgi (c : UInt8) : Bool := decide (48 ≤ c.toNat) && decide (c.toNat ≤ 57)
def wst (c : UInt8) : Bool := ZhG c || Zhp c || c.toNat == 95
def wch (c : UInt8) : Bool := wst c || Zgi c || c.toNat == 39
def ZuH : List UInt8 := [33, 35, 36, 37, 38, 42, 43, 46, 47, 60, 61, 62, 63, 64, 92, 94, 124, 45, 126, 58]
def Ztw (c : UInt8) : Bool := ZuH.contains c
theorem ZBr (c : UInt8) : Zd7 ((c.toNat : Nat) : Int) = some (ZhG c) := by
 unfold Zd7 ZhG; congr 2 <;> (apply decide_eq_decide.2; omega)
theorem ZCN (c : UInt8) : Zcl ((c.toNat : Nat) : Int) = some (ZhG c) := by
 unfold Zcl ZhG; congr 2 <;> (apply decide_eq_decide.2; omega)
theorem ZEb (c : UInt8) : Ze2 ((c.toNat : Nat) : Int) = some (Zgi c) := by
 unfold Ze2 Zgi; congr 2 <;> (apply decide_eq_decide.2; omega)
theorem ZBf (c : UInt8) : ZcR ((c.toNat : Nat) : Int) = some (Zgi c) := by
 unfold ZcR Zgi; congr 2 <;> (apply decide_eq_decide.2; omega)
theorem ZdC (a b : Nat) : (((a : Nat) : Int) == ((b : Nat) : Int)) = (a == b) := by
 rw [Bool.eq_iff_iff]; simp; omega
theorem ZBc (c : UInt8) : Zd1 ((c.toNat : Nat) : Int) = some (ZhG c || Zhp c) := by
 unfold Zd1
 rw [ZBr, Zm]
 unfold Zhp
 congr 3 <;> (apply decide_eq_decide.2; omega)
theorem ZA8 (c : UInt8) : ZcN ((c.toNat : Nat) : Int) = some (Zhp c || c.toNat == 95) := by
 unfold ZcN Zhp
 rw [show (95 : Int) = ((95 : Nat) : Int) from rfl, ZdC]
 congr 3 <;> (apply decide_eq_decide.2; omega)
theorem ZiA {l : List UInt8} {k : Nat} {y : UInt8} (h : l[k]? = some y) : l.drop k = y :: l.drop (k + 1) := by
 obtain ⟨h1, h2⟩ := List.getElem?_eq_some_iff.1 h
 rw [List.drop_eq_getElem_cons h1, h2]
theorem ZyM (s : ByteArray) (hs : s.size ≤ 1000000) : ∀ (d k : Nat), s.size - k = d → Zc4 s k = some ((s.data.toList.drop k).all wch) := by
 intro d
 induction d with
 | zero =>
  intro k hk
  rw [Zc4, if_neg (by simp; omega), List.drop_eq_nil_of_le (by rw [sz]; omega)]; rfl
 | succ d ih =>
  intro k hk
  have hlt : k < s.size := by omega
  obtain ⟨y, hy⟩ : ∃ y, s.data.toList[k]? = some y := ⟨_, List.getElem?_eq_getElem (by rw [sz]; exact hlt)⟩
  rw [Zc4, if_pos (by simpa using hlt), Zef, hy, Zm, ZBc, Zm, ZEb, ZiA hy, List.all_cons]
  have h1 : (if (!(ZhG y || Zhp y)) = true then some (Zgi y) >>= fun r35 => some (!r35) else some false) = some (!(ZhG y || Zhp y) && !(Zgi y)) := by
   cases (ZhG y || Zhp y) <;> rfl
  rw [h1, Zm]
  have h2 : ((((!(ZhG y || Zhp y) && !(Zgi y)) && (((y.toNat : Nat) : Int) != 95)) && (((y.toNat : Nat) : Int) != 39)) = true) ↔ wch y = false := by
   unfold wch wst
   rw [show (((y.toNat : Nat) : Int) != 95) = !(y.toNat == 95) from by rw [bne, show (95 : Int) = ((95 : Nat) : Int) from rfl, ZdC], show (((y.toNat : Nat) : Int) != 39) = !(y.toNat == 39) from by rw [bne, show (39 : Int) = ((39 : Nat) : Int) from rfl, ZdC]]
   cases ZhG y <;> cases Zhp y <;> cases Zgi y <;> cases (y.toNat == 95) <;> cases (y.toNat == 39) <;> simp
  by_cases hw : wch y = false
  ·rw [if_pos (h2.2 hw), hw]; rfl
  ·rw [if_neg (fun h => hw (h2.1 h)), Zdt _ (by omega), ih (k + 1) (by omega)]
   simp only [Bool.not_eq_false] at hw
   rw [hw]; rfl
def ZhA (l : List UInt8) : Bool := match l with
 | [] => false
 | c :: r => decide (r.length < 64) && wst c && l.all wch
theorem ZhK (c : UInt8) (r : List UInt8) : ZhA (c :: r) = (decide (r.length < 64) && wst c && (c :: r).all wch) := rfl
theorem ZmK (s : ByteArray) : (s.toList == (ByteArray.mk #[]).toList) = decide (s.size = 0) := by
 rw [Bool.eq_iff_iff]
 rw [beq_iff_eq, ZaU, ZaU, decide_eq_true_iff, ← sz]
 constructor
 ·intro h; rw [h]; rfl
 ·intro h; exact List.eq_nil_of_length_eq_zero h
theorem ZvW (s : ByteArray) : Zem s = some (ZhA s.data.toList) := by
 unfold Zem
 rw [ZmK]
 cases hl : s.data.toList with
 | nil =>
  have h0 : s.size = 0 := by rw [← sz, hl]; rfl
  rw [if_pos (by simp [h0])]; rfl
 | cons c r =>
  have h0 : s.size = r.length + 1 := by rw [← sz, hl]; rfl
  by_cases h64 : s.size > 64
  ·rw [if_pos (by simp; omega), Zm, if_pos rfl]
   rw [ZhK, show decide (r.length < 64) = false from decide_eq_false (by omega)]; rfl
  ·have hc : ¬ ((decide (s.size = 0) || decide (((s.size : Nat) : Int) > 64)) = true) := by rw [Bool.or_eq_true, decide_eq_true_iff, decide_eq_true_iff]; omega
   rw [if_neg hc]
   have hb : btI s 0 = some c := by have := Zef s 0; rw [hl] at this; exact this
   rw [hb]
   simp only [Zm, ZBc]
   rw [show (((c.toNat : Nat) : Int) != 95) = !(c.toNat == 95) from by rw [bne, show (95 : Int) = ((95 : Nat) : Int) from rfl, ZdC]]
   rw [ZhK, show decide (r.length < 64) = true from decide_eq_true (by omega)]
   cases hw : wst c with
   | false =>
    unfold wst at hw
    cases h1 : (ZhG c || Zhp c) <;> rw [h1] at hw <;> simp_all
   | true =>
    have : (if (!(ZhG c || Zhp c)) = true then some (!(c.toNat == 95)) else some false) = some false := by
     unfold wst at hw
     cases h1 : (ZhG c || Zhp c) <;> rw [h1] at hw <;> simp_all
    rw [this, Zm, Zm, if_neg (by simp)]
    rw [ZyM s (by omega) _ 0 rfl, List.drop_zero, hl]; rfl
theorem ZgT {s : ByteArray} (h : ZhA s.data.toList = true) : 0 < s.size ∧ s.size ≤ 64 := by
 rw [← sz]
 cases hl : s.data.toList with
 | nil => rw [hl] at h; cases h
 | cons c r =>
  rw [hl, ZhK, Bool.and_eq_true, Bool.and_eq_true, decide_eq_true_iff] at h
  simp only [List.length_cons]; omega
theorem Zzn (s : ByteArray) (hs : s.size ≤ 1000000) : ∀ (d k : Nat), s.size - k = d → Zbl s k = some ((s.data.toList.drop k).all wch) := by
 intro d
 induction d with
 | zero =>
  intro k hk
  rw [Zbl, if_neg (by simp; omega), List.drop_eq_nil_of_le (by rw [sz]; omega)]; rfl
 | succ d ih =>
  intro k hk
  have hlt : k < s.size := by omega
  obtain ⟨y, hy⟩ : ∃ y, s.data.toList[k]? = some y := ⟨_, List.getElem?_eq_getElem (by rw [sz]; exact hlt)⟩
  rw [Zbl, if_pos (by simpa using hlt), Zef, hy]
  simp only [Zm, ZA8, ZCN, ZBf, ZiA hy, List.all_cons]
  rw [show (((y.toNat : Nat) : Int) != 39) = !(y.toNat == 39) from by rw [bne, show (39 : Int) = ((39 : Nat) : Int) from rfl, ZdC]]
  have h1 : ((if (!(Zhp y || y.toNat == 95)) = true then some (!ZhG y) else some false) >>= fun c51 =>
    (if c51 = true then some (!Zgi y) else some false) >>= fun c54 => (if c54 = true then some (!(y.toNat == 39)) else some false)) = some (!wch y) := by
   unfold wch wst
   cases ZhG y <;> cases Zhp y <;> cases Zgi y <;> cases (y.toNat == 95) <;> cases (y.toNat == 39) <;> rfl
  have h2 : ∀ (f : Bool → Option Bool), ((if (!(Zhp y || y.toNat == 95)) = true then some (!ZhG y) else some false) >>= fun c51 =>
    (if c51 = true then some (!Zgi y) else some false) >>= fun c54 => (if c54 = true then some (!(y.toNat == 39)) else some false) >>= f) = f (!wch y) := fun f => by
   unfold wch wst
   cases ZhG y <;> cases Zhp y <;> cases Zgi y <;> cases (y.toNat == 95) <;> cases (y.toNat == 39) <;> rfl
  rw [h2]
  cases hw : wch y with
  | false => rfl
  | true =>
   simp only [Bool.not_true, Bool.false_eq_true, if_false, Bool.true_and]
   rw [Zdt _ (by omega), ih (k + 1) (by omega)]
theorem ZCF (s : ByteArray) : Zdp s = some (ZhA s.data.toList) := by
 unfold Zdp
 cases hl : s.data.toList with
 | nil =>
  have h0 : s.size = 0 := by rw [← sz, hl]; rfl
  rw [if_pos (by simp [h0])]; rfl
 | cons c r =>
  have h0 : s.size = r.length + 1 := by rw [← sz, hl]; rfl
  by_cases h64 : s.size > 64
  ·rw [if_pos (by simp; omega), Zm, if_pos rfl]
   rw [ZhK, show decide (r.length < 64) = false from decide_eq_false (by omega)]; rfl
  ·rw [if_neg (by simp; omega)]
   have hb : btI s 0 = some c := by have := Zef s 0; rw [hl] at this; exact this
   rw [hb]
   simp only [Zm, ZA8, ZCN]
   rw [ZhK, show decide (r.length < 64) = true from decide_eq_true (by omega)]
   have h2 : ((if (!(Zhp c || c.toNat == 95)) = true then some (!ZhG c) else some false) >>= fun c12 => some c12) = some (!wst c) := by
    unfold wst
    cases ZhG c <;> cases Zhp c <;> cases (c.toNat == 95) <;> rfl
   rw [h2, Zm]
   cases hw : wst c with
   | false => rfl
   | true =>
    simp only [Bool.not_true, Bool.false_eq_true, if_false]
    rw [Zzn s (by omega) _ 0 rfl, List.drop_zero, hl]; rfl
theorem Zoh : ∀ (l : List UInt8) (c : UInt8), decide (Lib.indexByte l c ≥ 0) = l.contains c ∧ -1 ≤ Lib.indexByte l c
 | [], c => by simp [Lib.indexByte]
 | b :: l, c => by
  obtain ⟨h1, h2⟩ := Zoh l c
  unfold Lib.indexByte
  by_cases hb : b == c
  ·rw [if_pos hb]
   have : c = b := (beq_iff_eq.1 hb).symm
   subst this
   simp
  ·rw [if_neg hb]
   have hc : ¬ c = b := fun e => hb (by simp [e])
   have hcon : (b :: l).contains c = l.contains c := by simp [hc]
   rw [hcon, ← h1]
   split
   ·rename_i h3
    have : Lib.indexByte l c = -1 := by simpa using h3
    rw [this]; simp
   ·rename_i h3
    have h4 : ¬ Lib.indexByte l c = -1 := by simpa using h3
    constructor
    ·apply decide_eq_decide.2; omega
    ·omega
theorem ZCx (c : UInt8) : ZdM ((c.toNat : Nat) : Int) = some (Ztw c) := by
 unfold ZdM strings_IndexByte
 rw [Zm]
 have h1 : ((c.toNat : Nat) : Int).toNat.toUInt8 = c := by rw [Int.toNat_natCast]; simp
 rw [h1, (Zoh _ c).1]
 rfl
theorem Zyr (c : Int) (i_4 : Nat) : Z1 c i_4 = if (decide (((i_4 : Nat) : Int) < (((ByteArray.mk #[33, 35, 36, 37, 38, 42, 43, 46, 47, 60, 61, 62, 63, 64, 92, 94, 124, 45, 126, 58]).size : Nat) : Int))) = true then
  (btI (ByteArray.mk #[33, 35, 36, 37, 38, 42, 43, 46, 47, 60, 61, 62, 63, 64, 92, 94, 124, 45, 126, 58]) ((i_4 : Nat) : Int)) >>= fun y12 =>
  if (((y12.toNat : Nat) : Int) == c) = true then some true
  else ZV (i_4 + 1 ≤ 9223372036854775807) >>= fun _ => Z1 c (i_4 + 1)
  else some false := by
 delta Z1
 exact congrFun (Lean.Order.fix_eq _) i_4
theorem ZuB (c : UInt8) (k : Nat) : Z1 ((c.toNat : Nat) : Int) k = if k < 20 then (ZuH[k]? >>= fun y => if y.toNat == c.toNat then some true else (ZV (k + 1 ≤ 9223372036854775807) >>= fun _ => Z1 ((c.toNat : Nat) : Int) (k + 1))) else some false := by
 have hs : (ByteArray.mk #[33, 35, 36, 37, 38, 42, 43, 46, 47, 60, 61, 62, 63, 64, 92, 94, 124, 45, 126, 58]).size = 20 := rfl
 have hl : (ByteArray.mk #[33, 35, 36, 37, 38, 42, 43, 46, 47, 60, 61, 62, 63, 64, 92, 94, 124, 45, 126, 58]).data.toList = ZuH := rfl
 have hb := Zef (ByteArray.mk #[33, 35, 36, 37, 38, 42, 43, 46, 47, 60, 61, 62, 63, 64, 92, 94, 124, 45, 126, 58]) k
 rw [hl] at hb
 rw [Zyr, hb, hs]
 generalize ZuH[k]? = o
 by_cases h : k < 20
 ·rw [if_pos h, if_pos (decide_eq_true (by omega))]
  cases o with
  | none => rfl
  | some y => simp only [Zm, ZdC]
 ·rw [if_neg h, if_neg (by rw [decide_eq_true_iff]; omega)]
theorem ZuJ : ZuH.length = 20 := rfl
theorem Zyv (c : UInt8) : ∀ (d k : Nat), 20 - k = d → Z1 ((c.toNat : Nat) : Int) k = some ((ZuH.drop k).contains c) := by
 intro d
 induction d with
 | zero =>
  intro k hk
  rw [ZuB, if_neg (by omega), List.drop_eq_nil_of_le (by rw [ZuJ]; omega)]; rfl
 | succ d ih =>
  intro k hk
  obtain ⟨y, hy⟩ : ∃ y, ZuH[k]? = some y := ⟨_, List.getElem?_eq_getElem (by rw [ZuJ]; omega)⟩
  rw [ZuB, if_pos (by omega), hy, Zm, ZiA hy]
  by_cases he : y = c
  ·subst he; simp
  ·have h1 : (y.toNat == c.toNat) = false := by simp; exact fun e => he (UInt8.toNat_inj.1 e)
   rw [h1, if_neg (by simp), Zdt _ (by omega), ih (k + 1) (by omega)]
   have h2 : ¬ c = y := fun e => he e.symm
   simp [h2]
theorem ZBO (c : UInt8) : Zcr ((c.toNat : Nat) : Int) = some (Ztw c) := by
 unfold Zcr; rw [Zyv c _ 0 rfl]; rfl
def cnt (l : List UInt8) : Nat := (l.filter fun c => c.toNat == 45).length
theorem Zvo (s : ByteArray) (hs : s.size ≤ 1000000) : ∀ (d k m : Nat), s.size - k = d → k ≤ s.size → m ≤ k → ZbQ s m k =
  some ((s.data.toList.drop k).all Ztw && (decide (s.size = 1) || decide (m + cnt (s.data.toList.drop k) < s.size))) := by
 intro d
 induction d with
 | zero =>
  intro k m hk hle hm
  have : k = s.size := by omega
  subst this
  rw [ZbQ, if_pos (by simp), List.drop_eq_nil_of_le (by rw [sz]; omega)]
  have e1 : (((s.size : Nat) : Int) == 1) = decide (s.size = 1) := by rw [show (1 : Int) = ((1 : Nat) : Int) from rfl, ZdC, Bool.eq_iff_iff, beq_iff_eq, decide_eq_true_iff]
  rw [e1]
  have e2 : decide (((m : Nat) : Int) < ((s.size : Nat) : Int)) = decide (m + cnt ([] : List UInt8) < s.size) := decide_eq_decide.2 (by show _ ↔ m + 0 < s.size; omega)
  rw [e2]; rfl
 | succ d ih =>
  intro k m hk hle hm
  have hlt : k < s.size := by omega
  obtain ⟨y, hy⟩ : ∃ y, s.data.toList[k]? = some y := ⟨_, List.getElem?_eq_getElem (by rw [sz]; exact hlt)⟩
  have hne : ¬ ((((k : Nat) : Int) == ((s.size : Nat) : Int)) = true) := by rw [ZdC, beq_iff_eq]; omega
  rw [ZbQ, if_neg hne, Zef, hy]
  simp only [Zm, ZCx, ZiA hy, List.all_cons]
  cases hc : Ztw y with
  | false => rfl
  | true =>
   rw [show (45 : Int) = ((45 : Nat) : Int) from rfl, ZdC]
   simp only [Bool.not_true, Bool.false_eq_true, if_false, Bool.true_and]
   cases h45 : (y.toNat == 45) with
   | true =>
    rw [if_pos rfl, Zdt _ (by omega), Zdt _ (by omega), ih (k + 1) (m + 1) (by omega) (by omega) (by omega)]
    have : cnt (y :: s.data.toList.drop (k + 1)) = cnt (s.data.toList.drop (k + 1)) + 1 := by unfold cnt; rw [List.filter_cons, if_pos h45]; rfl
    rw [this, show m + (cnt (s.data.toList.drop (k + 1)) + 1) = m + 1 + cnt (s.data.toList.drop (k + 1)) from by omega]
   | false =>
    rw [if_neg (by simp), Zdt _ (by omega), ih (k + 1) m (by omega) (by omega) (by omega)]
    have : cnt (y :: s.data.toList.drop (k + 1)) = cnt (s.data.toList.drop (k + 1)) := by unfold cnt; rw [List.filter_cons, if_neg (by rw [h45]; simp)]
    rw [this]
theorem Zvc (s : ByteArray) (hs : s.size ≤ 1000000) : ∀ (d k m : Nat), s.size - k = d → k ≤ s.size → m ≤ k → ZaA s m k =
  some ((s.data.toList.drop k).all Ztw && (decide (s.size = 1) || decide (m + cnt (s.data.toList.drop k) < s.size))) := by
 intro d
 induction d with
 | zero =>
  intro k m hk hle hm
  have : k = s.size := by omega
  subst this
  rw [ZaA, if_neg (by rw [decide_eq_true_iff]; omega), List.drop_eq_nil_of_le (by rw [sz]; omega)]
  have e1 : (((s.size : Nat) : Int) == 1) = decide (s.size = 1) := by rw [show (1 : Int) = ((1 : Nat) : Int) from rfl, ZdC, Bool.eq_iff_iff, beq_iff_eq, decide_eq_true_iff]
  rw [e1]
  have e2 : decide (((m : Nat) : Int) < ((s.size : Nat) : Int)) = decide (m + cnt ([] : List UInt8) < s.size) := decide_eq_decide.2 (by show _ ↔ m + 0 < s.size; omega)
  rw [e2, Bool.or_comm]; rfl
 | succ d ih =>
  intro k m hk hle hm
  have hlt : k < s.size := by omega
  obtain ⟨y, hy⟩ : ∃ y, s.data.toList[k]? = some y := ⟨_, List.getElem?_eq_getElem (by rw [sz]; exact hlt)⟩
  rw [ZaA, if_pos (by rw [decide_eq_true_iff]; omega), Zef, hy]
  simp only [Zm, ZBO, ZiA hy, List.all_cons]
  cases hc : Ztw y with
  | false => rfl
  | true =>
   rw [show (45 : Int) = ((45 : Nat) : Int) from rfl, ZdC]
   simp only [Bool.not_true, Bool.false_eq_true, if_false, Bool.true_and]
   cases h45 : (y.toNat == 45) with
   | true =>
    rw [if_pos rfl, Zdt _ (by omega), Zdt _ (by omega), ih (k + 1) (m + 1) (by omega) (by omega) (by omega)]
    have : cnt (y :: s.data.toList.drop (k + 1)) = cnt (s.data.toList.drop (k + 1)) + 1 := by unfold cnt; rw [List.filter_cons, if_pos h45]; rfl
    rw [this, show m + (cnt (s.data.toList.drop (k + 1)) + 1) = m + 1 + cnt (s.data.toList.drop (k + 1)) from by omega]
   | false =>
    rw [if_neg (by simp), Zdt _ (by omega), ih (k + 1) m (by omega) (by omega) (by omega)]
    have : cnt (y :: s.data.toList.drop (k + 1)) = cnt (s.data.toList.drop (k + 1)) := by unfold cnt; rw [List.filter_cons, if_neg (by rw [h45]; simp)]
    rw [this]
def ZeB (l : List UInt8) : Bool := decide (0 < l.length) && decide (l.length ≤ 64) && l.all Ztw && (decide (l.length = 1) || decide (cnt l < l.length))
theorem Zrx (s : ByteArray) : ZdF s = some (ZeB s.data.toList) := by
 unfold ZdF ZeB
 rw [ZmK, sz]
 by_cases hc : (decide (s.size = 0) || decide (((s.size : Nat) : Int) > 64)) = true
 ·rw [if_pos hc]
  rw [Bool.or_eq_true, decide_eq_true_iff, decide_eq_true_iff] at hc
  rcases hc with hc | hc
  ·rw [show decide (0 < s.size) = false from decide_eq_false (by omega)]; rfl
  ·rw [show decide (s.size ≤ 64) = false from decide_eq_false (by omega), Bool.and_false]; rfl
 ·rw [if_neg hc]
  rw [Bool.or_eq_true, decide_eq_true_iff, decide_eq_true_iff] at hc
  rw [Zvo s (by omega) _ 0 0 rfl (by omega) (by omega), List.drop_zero, show decide (0 < s.size) = true from decide_eq_true (by omega), show decide (s.size ≤ 64) = true from decide_eq_true (by omega), Nat.zero_add]; rfl
theorem Zyq (s : ByteArray) : ZcX s = some (ZeB s.data.toList) := by
 unfold ZcX ZeB
 rw [sz]
 by_cases hc : (decide (((s.size : Nat) : Int) < 1) || decide (((s.size : Nat) : Int) > 64)) = true
 ·rw [if_pos hc]
  rw [Bool.or_eq_true, decide_eq_true_iff, decide_eq_true_iff] at hc
  rcases hc with hc | hc
  ·rw [show decide (0 < s.size) = false from decide_eq_false (by omega)]; rfl
  ·rw [show decide (s.size ≤ 64) = false from decide_eq_false (by omega), Bool.and_false]; rfl
 ·rw [if_neg hc]
  rw [Bool.or_eq_true, decide_eq_true_iff, decide_eq_true_iff] at hc
  rw [Zvc s (by omega) _ 0 0 rfl (by omega) (by omega), List.drop_zero, show decide (0 < s.size) = true from decide_eq_true (by omega), show decide (s.size ≤ 64) = true from decide_eq_true (by omega), Nat.zero_add]; rfl

def Zdh : List (List UInt8) := [[97, 115], [99, 97, 115, 101], [99, 108, 97, 115, 115], [100, 97, 116, 97], [100, 101, 114, 105, 118, 105, 110, 103], [100, 111], [101, 108, 115, 101], [104, 105, 100, 105, 110, 103], [105, 102], [105, 109, 112, 111, 114, 116], [105, 110], [105, 110, 102, 105, 120], [105, 110, 102, 105, 120, 108], [105, 110, 102, 105, 120, 114], [105, 110, 115, 116, 97, 110, 99, 101], [108, 101, 116], [109, 111, 100, 117, 108, 101], [111, 102], [113, 117, 97, 108, 105, 102, 105, 101, 100], [116, 104, 101, 110], [119, 104, 101, 114, 101], [95]]
def Zfa : List (List UInt8) := [[46, 46], [58, 58], [61], [92], [124], [60, 45], [45, 62], [64], [126], [61, 62]]
def Zv6 (l : List UInt8) : List (List UInt8) → Option Bool
 | [] => some false
 | w :: ws => if (l == w) = true then some true else Zv6 l ws
theorem ZlS (l : List UInt8) : ∀ ws, Zv6 l ws = some (ws.contains l)
 | [] => rfl
 | w :: ws => by
  unfold Zv6
  rw [ZlS l ws, List.contains_cons]
  cases (l == w) <;> rfl
theorem ZkH (c : Bool) (x : Option Bool) : (if c = true then some c else x) = (if c = true then some true else x) := by cases c <;> rfl
theorem ZyU (c : Bool) (x y z : Option Bool) : (if c = true then (if c = true then x else y) else z) = (if c = true then x else z) := by cases c <;> rfl
theorem Zp9 (c : Bool) : some c = (if c = true then some true else some false) := by cases c <;> rfl
theorem nk1 (x : Bool) : Zt x = some x := by cases x <;> rfl
theorem rk2 (x : Bool) : ZI x = some x := by cases x <;> rfl
theorem nsk (x : Bool) : ZL x = some x := by cases x <;> rfl
theorem rsk (x : Bool) : Zy x = some x := by cases x <;> rfl
theorem ZBi (s : ByteArray) : Zcd s = some (Zdh.contains s.data.toList) := by
 rw [← ZlS]
 unfold Zcd
 simp only [nk1, ZkH, ZaU]
 rw [Zp9 (s.data.toList == _)]
 rfl
theorem ZFg (s : ByteArray) : Zco s = some (Zdh.contains s.data.toList) := by
 rw [← ZlS]
 unfold Zco ZJ
 simp only [rk2, ZyU, ZkH, ZaU]
 rw [Zp9 (s.data.toList == _)]
 rfl
theorem Zzl (s : ByteArray) : Zbz s = some (Zfa.contains s.data.toList) := by
 rw [← ZlS]
 unfold Zbz
 simp only [nsk, ZkH, ZaU]
 rw [Zp9 (s.data.toList == _)]
 rfl
theorem ZCB (s : ByteArray) : ZaV s = some (Zfa.contains s.data.toList) := by
 rw [← ZlS]
 unfold ZaV
 simp only [rsk, ZkH, ZaU]
 rw [Zp9 (s.data.toList == _)]
 rfl
theorem ZyD {l : List UInt8} (h : Zdh.contains l = true) : ZhA l = true := by
 have h := List.contains_iff_mem.1 h
 have key : ∀ w ∈ Zdh, ZhA w = true := by decide
 exact key l h
theorem Zpv {l : List UInt8} (h : Zfa.contains l = true) : ZeB l = true := by
 have h := List.contains_iff_mem.1 h
 have key : ∀ w ∈ Zfa, ZeB w = true := by decide
 exact key l h
theorem ZsY : ∀ c : UInt8, Ztw c = true → wst c = false := by
 intro c h
 have h := List.contains_iff_mem.1 h
 have key : ∀ w ∈ ZuH, wst w = false := by decide
 exact key c h
theorem Zij {l : List UInt8} (h : ZhA l = true) : ZeB l = false := by
 cases l with
 | nil => cases h
 | cons c r =>
  rw [ZhK, Bool.and_eq_true, Bool.and_eq_true] at h
  cases hs : Ztw c with
  | true => have := ZsY c hs; rw [h.1.2] at this; cases this
  | false => unfold ZeB; rw [List.all_cons, hs]; simp
def Zid (l : List UInt8) : Bool := match l with | [] => false | c :: _ => ZhG c
def Zqe (l : List UInt8) : Bool := match l with | [] => false | c :: _ => c.toNat == 58
def Zdr (l : List UInt8) : Int :=
 if ZhA l = true then (if Zdh.contains l = true then 5 else if Zid l = true then 2 else 1)
 else if ZeB l = true then (if Zfa.contains l = true then 6 else if Zqe l = true then 4 else 3) else 0
theorem ZoB {s : ByteArray} (h : 0 < s.size) : ∃ c r, s.data.toList = c :: r ∧ btI s 0 = some c := by
 cases hl : s.data.toList with
 | nil => rw [← sz, hl] at h; cases h
 | cons c r => exact ⟨c, r, rfl, by have := Zef s 0; rw [hl] at this; exact this⟩
theorem Zml {s : ByteArray} (h : ZeB s.data.toList = true) : 0 < s.size ∧ s.size ≤ 64 := by
 unfold ZeB at h
 simp only [Bool.and_eq_true, decide_eq_true_iff, sz] at h
 omega
theorem Zme (s : ByteArray) : Zbf s = some (Zdr s.data.toList) := by
 unfold Zbf Zdr
 rw [ZCF, Zm]
 cases hw : ZhA s.data.toList with
 | true =>
  obtain ⟨c, r, hl, hb⟩ := ZoB (ZgT hw).1
  rw [if_pos rfl, if_pos rfl, ZFg, Zm]
  cases Zdh.contains s.data.toList with
  | true => rfl
  | false =>
   rw [if_neg (by simp), if_neg (by simp), hb, Zm, ZCN, Zm, hl]
   show _ = some (if ZhG c = true then 2 else 1)
   cases ZhG c <;> rfl
 | false =>
  rw [if_neg (by simp), if_neg (by simp), Zyq, Zm]
  cases hs : ZeB s.data.toList with
  | true =>
   obtain ⟨c, r, hl, hb⟩ := ZoB (Zml hs).1
   rw [if_pos rfl, if_pos rfl, ZCB, Zm]
   cases Zfa.contains s.data.toList with
   | true => rfl
   | false =>
    rw [if_neg (by simp), if_neg (by simp), hb, Zm, show (58 : Int) = ((58 : Nat) : Int) from rfl, ZdC, hl]
    show _ = some (if (c.toNat == 58) = true then 4 else 3)
    cases (c.toNat == 58) <;> rfl
  | false => rfl
def ZhP (l : List UInt8) : Bool := (ZhA l && !Zdh.contains l) || (ZeB l && !Zfa.contains l)
theorem Zuw (l : List UInt8) : ((((Zdr l == 1) || (Zdr l == 2)) || (Zdr l == 3)) || (Zdr l == 4)) = ZhP l := by
 unfold Zdr ZhP
 cases hw : ZhA l with
 | true => rw [Zij hw]; cases Zdh.contains l <;> cases Zid l <;> rfl
 | false => cases ZeB l <;> cases Zfa.contains l <;> cases Zqe l <;> rfl
theorem Zwo (s : ByteArray) : ZcO s = some (ZhP s.data.toList) := by
 unfold ZcO; rw [Zme, Zm, Zuw]
theorem Zuh (s : ByteArray) : Zd2 s = some (ZhP s.data.toList) := by
 unfold Zd2 ZhP
 rw [ZvW, Zm]
 cases hw : ZhA s.data.toList with
 | true =>
  rw [ZBi, Zrx, Zij hw]
  cases Zdh.contains s.data.toList <;> rfl
 | false =>
  rw [Zrx]
  cases ZeB s.data.toList with
  | true => rw [Zzl]; cases Zfa.contains s.data.toList <;> rfl
  | false => rfl
theorem Zxk (l : List UInt8) : (Zdr l != 2) = !(ZhA l && Zid l && !Zdh.contains l) := by
 unfold Zdr
 cases ZhA l <;> cases Zdh.contains l <;> cases Zid l <;> cases ZeB l <;> cases Zfa.contains l <;> cases Zqe l <;> rfl
theorem ZAM {l : List UInt8} (h : Zid l = true) : Zdh.contains l = false := by
 cases hr : Zdh.contains l with
 | false => rfl
 | true =>
  have hm := List.contains_iff_mem.1 hr
  have key : ∀ w ∈ Zdh, Zid w = false := by decide
  rw [key l hm] at h; cases h

def mkB (l : List UInt8) : ByteArray := ⟨l.toArray⟩
theorem ZeC (l : List UInt8) : (mkB l).data.toList = l := by simp [mkB]
theorem Zke (l : List UInt8) : (mkB l).size = l.length := by rw [← sz, ZeC]
theorem ZmC (a b : ByteArray) : (a ++ b).data.toList = a.data.toList ++ b.data.toList := by simp
def okJ (m n : List UInt8) : Bool := ZhA m && Zid m && ZhP n
theorem Zq7 {s : ByteArray} (h : ZhP s.data.toList = true) : 0 < s.size ∧ s.size ≤ 64 := by
 unfold ZhP at h
 rw [Bool.or_eq_true, Bool.and_eq_true, Bool.and_eq_true] at h
 rcases h with h | h
 ·exact ZgT h.1
 ·exact Zml h.1
def Zsd (m n : ByteArray) : ByteArray := if okJ m.data.toList n.data.toList = true then (m ++ ByteArray.mk #[46]) ++ n else ByteArray.mk #[]
theorem Zo4 : IntKind.i64.max = 9223372036854775807 := rfl
theorem Zrc (a b : ByteArray) : (a ++ b).size = a.size + b.size := by rw [← sz, ZmC, List.length_append, sz, sz]
theorem orT {α : Type} (Y : Option Bool) (G : Bool → Option α) : ((if true = true then some true else Y) >>= G) = G true := rfl
theorem orF {α : Type} (Y : Option Bool) (G : Bool → Option α) : ((if false = true then some true else Y) >>= G) = (Y >>= G) := rfl
theorem ZAB {α : Type} (Y : Option Bool) (G : Bool → Option α) : ((if true = true then Y else some false) >>= G) = (Y >>= G) := rfl
theorem ZDm {α : Type} (Y : Option Bool) (G : Bool → Option α) : ((if false = true then Y else some false) >>= G) = G false := rfl
theorem ifT {α : Type} (a b : α) : (if true = true then a else b) = a := rfl
theorem ifF {α : Type} (a b : α) : (if false = true then a else b) = b := rfl
theorem Zya {m n : ByteArray} (hm : m.size ≤ 64) (hn : n.size ≤ 64) : (ZV (((m.size + (ByteArray.mk #[46]).size : Nat) : Int) ≤ IntKind.i64.max) >>= fun _ =>
  ZV ((((m ++ (ByteArray.mk #[46])).size + n.size : Nat) : Int) ≤ IntKind.i64.max) >>= fun _ => some ((m ++ (ByteArray.mk #[46])) ++ n)) = some ((m ++ (ByteArray.mk #[46])) ++ n) := by
 have e : (ByteArray.mk #[46]).size = 1 := rfl
 have h1 : ((m.size + (ByteArray.mk #[46]).size : Nat) : Int) ≤ IntKind.i64.max := by rw [Zo4, e]; omega
 have h2 : (((m ++ (ByteArray.mk #[46])).size + n.size : Nat) : Int) ≤ IntKind.i64.max := by rw [Zo4, Zrc, e]; omega
 rw [Zdt _ h1, Zdt _ h2]
theorem ZB0 (m n : ByteArray) : ZfC m n = some (Zsd m n) := by
 unfold ZfC Zsd okJ
 rw [ZvW, Zm]
 cases hw : ZhA m.data.toList with
 | false => rw [Bool.not_false, orT, orT, Bool.false_and, Bool.false_and, ifT, ifF]
 | true =>
  obtain ⟨c, r, hl, hb⟩ := ZoB (ZgT hw).1
  have h64 := ZgT hw
  have hu : Zid m.data.toList = ZhG c := by rw [hl]; rfl
  rw [Bool.not_true, orF, hb, Zm, ZBr, Zm, Zm, hu]
  cases ZhG c with
  | false => rw [Bool.not_false, orT, Bool.and_false, Bool.false_and, ifT, ifF]
  | true =>
   rw [Bool.not_true, orF, Zuh, Zm, Zm]
   cases hn : ZhP n.data.toList with
   | false => rw [Bool.not_false, ifT, Bool.and_false, ifF]
   | true =>
    have h65 := Zq7 hn
    rw [Bool.not_true, ifF, Bool.and_true, Bool.and_true, ifT]
    exact Zya h64.2 h65.2
theorem ZB7 (m n : ByteArray) : Zdn m n = some (Zsd m n) := by
 unfold Zdn Zsd okJ
 rw [Zme, Zm, Zxk]
 cases hw : ZhA m.data.toList with
 | false => rw [show (!(false && Zid m.data.toList && !Zdh.contains m.data.toList)) = true from rfl, orT, show (false && Zid m.data.toList && ZhP n.data.toList) = false from rfl, ifT, ifF]
 | true =>
  have h64 := ZgT hw
  cases hu : Zid m.data.toList with
  | false => rw [show (!(true && false && !Zdh.contains m.data.toList)) = true from rfl, orT, show (true && false && ZhP n.data.toList) = false from rfl, ifT, ifF]
  | true =>
   rw [ZAM hu, Zwo, Bool.and_true, Bool.not_false, Bool.and_true, Bool.not_true, orF, Zm, Zm]
   cases hn : ZhP n.data.toList with
   | false => rw [Bool.not_false, ifT, Bool.and_false, ifF]
   | true =>
    have h65 := Zq7 hn
    rw [Bool.not_true, ifF, Bool.and_true, ifT]
    exact Zya h64.2 h65.2
theorem ZuG (m n : ByteArray) : ((Zsd m n).toList == (ByteArray.mk #[]).toList) = !okJ m.data.toList n.data.toList := by
 rw [ZmK]
 unfold Zsd
 cases okJ m.data.toList n.data.toList with
 | true =>
  have e : (ByteArray.mk #[46]).size = 1 := rfl
  rw [if_pos rfl]
  exact decide_eq_false (by rw [Zrc, Zrc, e]; omega)
 | false => rfl
def spl : List UInt8 → Option (List UInt8 × List UInt8)
 | [] => none
 | b :: l => if b.toNat = 46 then some ([], l) else (spl l).map fun p => (b :: p.1, p.2)
theorem ZAq : ∀ l : List UInt8, Lib.cut l [46] = match spl l with | some p => (p.1, p.2, true) | none => (l, [], false) := by
 have key : ∀ l : List UInt8, match spl l with | some p => 0 ≤ Lib.indexByte l 46 ∧ l.take (Lib.indexByte l 46).toNat = p.1 ∧ l.drop ((Lib.indexByte l 46).toNat + 1) = p.2 | none => Lib.indexByte l 46 = -1 := by
  intro l
  induction l with
  | nil => rfl
  | cons b l ih =>
   unfold spl Lib.indexByte
   by_cases hb : b.toNat = 46
   ·have : b = 46 := UInt8.toNat_inj.1 hb
    subst this
    simp
   ·have h2 : (b == 46) = false := by
     rw [beq_eq_false_iff_ne]; rintro rfl; exact hb rfl
    rw [if_neg hb, h2]
    simp only [Bool.false_eq_true, if_false]
    cases hs : spl l with
    | none => rw [hs] at ih; simp only at ih; simp [ih]
    | some p =>
     rw [hs] at ih
     simp only at ih
     obtain ⟨h3, h4, h5⟩ := ih
     have h6 : (Lib.indexByte l 46 == -1) = false := by rw [beq_eq_false_iff_ne]; omega
     simp only [Option.map_some, h6, Bool.false_eq_true, if_false]
     have h7 : (Lib.indexByte l 46 + 1).toNat = (Lib.indexByte l 46).toNat + 1 := by omega
     rw [h7, List.take_succ_cons, List.drop_succ_cons, h4, h5]
     exact ⟨by omega, rfl, rfl⟩
 intro l
 have h := key l
 unfold Lib.cut
 rw [Lib.index_one]
 cases hs : spl l with
 | none => rw [hs] at h; simp only at h; rw [h]; rfl
 | some p =>
  rw [hs] at h
  simp only at h
  rw [if_pos h.1, h.2.1]
  show (_, l.drop (_ + 1), true) = _
  rw [h.2.2]
def ZhN (s : ByteArray) : ByteArray × ByteArray × Bool :=
 match spl s.data.toList with
 | some p => if okJ p.1 p.2 = true then (mkB p.1, mkB p.2, true) else (ByteArray.mk #[], ByteArray.mk #[], false)
 | none => (ByteArray.mk #[], ByteArray.mk #[], false)
theorem ZwW (s : ByteArray) (hs : s.size ≤ 1000000000) : Zey s = some (ZhN s) := by
 unfold Zey strings_Cut
 rw [Zdt _ (by omega), Zm]
 have hc : ZC0 s (ByteArray.mk #[46]) = match spl s.data.toList with | some p => (mkB p.1, mkB p.2, true) | none => (mkB s.data.toList, mkB [], false) := by
  unfold ZC0
  have e : (ByteArray.mk #[46]).data.toList = [46] := rfl
  rw [e, ZAq]
  cases spl s.data.toList <;> rfl
 unfold ZhN
 rw [hc]
 cases spl s.data.toList with
 | none => rw [Bool.not_false, orT, ifT]
 | some p =>
  simp only [Bool.not_true]
  rw [orF, ZB0, Zm, Zm, ZuG, ZeC, ZeC]
  cases okJ p.1 p.2 with
  | true => rw [Bool.not_true, ifF, ifT]
  | false => rw [Bool.not_false, ifT, ifF]
theorem ZnW (s : ByteArray) (a b : Nat) (h : a ≤ b) (hb : b ≤ s.size) : slS s ((a : Nat) : Int) ((b : Nat) : Int) = some (s.extract a b) := by
 unfold slS
 rw [if_pos (by omega), Int.toNat_natCast, Int.toNat_natCast]
theorem Ze4 (s : ByteArray) (a b : Nat) : (s.extract a b).data.toList = (s.data.toList.drop a).take (b - a) := by
 rw [ByteArray.data_extract, Array.toList_extract, List.extract_eq_take_drop]
theorem ZyT {l : List UInt8} {k : Nat} {y : UInt8} (h : l[k]? = some y) : spl (l.drop k) = if y.toNat = 46 then some ([], l.drop (k + 1)) else (spl (l.drop (k + 1))).map fun p => (y :: p.1, p.2) := by
 rw [ZiA h, spl]
theorem Zxs (s : ByteArray) (hs : s.size ≤ 1000000000) : ∀ (d k : Nat), s.size - k = d → k ≤ s.size → Za0 s k = some (match spl (s.data.toList.drop k) with
  | some p => if okJ (s.data.toList.take k ++ p.1) p.2 = true then (mkB (s.data.toList.take k ++ p.1), mkB p.2, true) else (ByteArray.mk #[], ByteArray.mk #[], false)
  | none => (ByteArray.mk #[], ByteArray.mk #[], false)) := by
 intro d
 induction d with
 | zero =>
  intro k hk hle
  rw [Za0, if_neg (by rw [decide_eq_true_iff]; omega), List.drop_eq_nil_of_le (by rw [sz]; omega)]; rfl
 | succ d ih =>
  intro k hk hle
  have hlt : k < s.size := by omega
  obtain ⟨y, hy⟩ : ∃ y, s.data.toList[k]? = some y := ⟨_, List.getElem?_eq_getElem (by rw [sz]; exact hlt)⟩
  rw [Za0, if_pos (by rw [decide_eq_true_iff]; omega), Zef, hy, Zm, ZyT hy, show (46 : Int) = ((46 : Nat) : Int) from rfl, bne, ZdC]
  by_cases h46 : y.toNat = 46
  ·have h1 : (y.toNat == 46) = true := by rw [beq_iff_eq]; exact h46
   have hz0 : (s.extract 0 k).data.toList = s.data.toList.take k := by rw [Ze4]; rfl
   have hz1 : (s.extract (k + 1) s.size).data.toList = s.data.toList.drop (k + 1) := by rw [Ze4]; exact List.take_of_length_le (by rw [List.length_drop, sz]; omega)
   have e1 : s.extract 0 k = mkB (s.data.toList.take k) := ZfQ (by rw [hz0, ZeC])
   have e2 : s.extract (k + 1) s.size = mkB (s.data.toList.drop (k + 1)) := ZfQ (by rw [hz1, ZeC])
   rw [h1, Bool.not_true, ifF, ZnW s 0 k (by omega) (by omega), Zm, Zdt _ (by omega), ZcZ (by omega), ZnW s (k + 1) s.size (by omega) (by omega), Zm, ZB7, Zm, ZuG, hz0, hz1, if_pos h46, Zm, Zdt _ (by omega), Zm, e1, e2]
   simp only [List.append_nil]
   cases okJ (s.data.toList.take k) (s.data.toList.drop (k + 1)) with
   | true => rw [Bool.not_true, ifF, ifT]
   | false => rw [Bool.not_false, ifT, ifF]
  ·have h1 : (y.toNat == 46) = false := by rw [beq_eq_false_iff_ne]; exact h46
   rw [h1, Bool.not_false, ifT, Zdt _ (by omega), ih (k + 1) (by omega) (by omega), if_neg h46]
   have ht : s.data.toList.take (k + 1) = s.data.toList.take k ++ [y] := by rw [List.take_add_one, hy]; rfl
   cases spl (s.data.toList.drop (k + 1)) with
   | none => rfl
   | some p =>
    simp only [Option.map_some]
    rw [ht, List.append_assoc]; rfl
theorem Zwp (s : ByteArray) (hs : s.size ≤ 1000000000) : ZcK s = some (ZhN s) := by
 unfold ZcK ZhN
 rw [Zxs s hs _ 0 rfl (by omega)]; rfl
def ZlX (s : ByteArray) : Bool := (ZhN s).2.2 || ZhP s.data.toList
theorem Zx7 (s : ByteArray) (hs : s.size ≤ 1000000000) : Zez s = some (ZlX s) := by
 unfold Zez ZlX
 rw [ZwW s hs, Zm]
 cases (ZhN s).2.2 with
 | true => rfl
 | false => rw [orF, Zuh]; rfl
theorem ZBG (s : ByteArray) (hs : s.size ≤ 1000000000) : ZcI s = some (ZlX s) := by
 unfold ZcI ZlX
 rw [Zwp s hs, Zm]
 cases (ZhN s).2.2 with
 | true => rfl
 | false => rw [orF, Zwo]; rfl

def Zpd (b : UInt8) : Prop := 48 ≤ b.toNat ∧ b.toNat ≤ 57
theorem Ziz {k : Nat} (h : k < 10) : (UInt8.ofNat (48 + k)).toNat = 48 + k := by
 rw [UInt8.toNat_ofNat']; omega
theorem Zw6 : ∀ (n u : Nat), u ≤ n → ∀ b ∈ Lib.decDigits u, Zpd b := by
 intro n
 induction n with
 | zero =>
  intro u hu b hb
  rw [Lib.decDigits, dif_pos (by omega)] at hb
  simp only [List.mem_singleton] at hb
  subst hb
  unfold Zpd; rw [Ziz (by omega)]; omega
 | succ n ih =>
  intro u hu b hb
  rw [Lib.decDigits] at hb
  split at hb
  ·simp only [List.mem_singleton] at hb
   subst hb
   unfold Zpd; rw [Ziz (by omega)]; omega
  ·rw [List.mem_append] at hb
   rcases hb with hb | hb
   ·exact ih (u / 10) (by omega) b hb
   ·simp only [List.mem_singleton] at hb
    subst hb
    unfold Zpd; rw [Ziz (by omega)]; omega
theorem Zs5 : ∀ (k u : Nat), u < 10 ^ (k + 1) → (Lib.decDigits u).length ≤ k + 1
 | 0, u, h => by rw [Lib.decDigits, dif_pos (by simpa using h)]; simp
 | k + 1, u, h => by
  rw [Lib.decDigits]
  split
  ·simp
  ·rw [List.length_append, List.length_singleton]
   have := Zs5 k (u / 10) (by rw [Nat.pow_succ] at h; omega)
   omega
theorem ZtM (u : Nat) : Lib.decDigits u ≠ [] := by
 rw [Lib.decDigits]; split <;> simp
theorem Zxr : ∀ (n u : Nat), u ≤ n → u < 18446744073709551616 → ∀ r : List UInt8, Lib.parseUint10 0 (Lib.decDigits u ++ r) = Lib.parseUint10 u r := by
 intro n
 induction n with
 | zero =>
  intro u hu _ r
  obtain rfl : u = 0 := by omega
  rw [Lib.decDigits, dif_pos (by omega)]
  simp only [List.cons_append, List.nil_append, Lib.parseUint10]
  rfl
 | succ n ih =>
  intro u hu hl r
  rw [Lib.decDigits]
  split
  ·rename_i h
   simp only [List.cons_append, List.nil_append, Lib.parseUint10, Ziz h]
   rw [if_pos (by omega), if_neg (by omega), if_neg (by omega)]
   congr 1; omega
  ·rename_i h
   rw [List.append_assoc, ih (u / 10) (by omega) (by omega)]
   simp only [List.cons_append, List.nil_append, Lib.parseUint10, Ziz (show u % 10 < 10 by omega)]
   rw [if_pos (by omega), if_neg (by omega), if_neg (by omega)]
   congr 1; omega
theorem Zw8 {u : Nat} (h : u < 18446744073709551616) : Lib.parseMag (Lib.decDigits u) = .ok u := by
 unfold Lib.parseMag
 rw [if_neg (ZtM u)]
 have := Zxr u u (Nat.le_refl _) h []
 rw [List.append_nil] at this
 rw [this]; rfl
def Zno (n : Int) : Prop := -9223372036854775808 ≤ n ∧ n ≤ 9223372036854775807
theorem Zxv {n : Int} (h : Zno n) : Lib.atoiAll (Lib.itoa n) = .ok n := by
 unfold Zno at h
 unfold Lib.itoa
 by_cases hn : n < 0
 ·rw [if_pos hn]
  simp only [Lib.atoiAll]
  rw [if_pos (by decide), Zw8 (by omega)]
  simp only
  rw [if_neg (by simp), if_neg (by simp; omega), if_pos (by decide)]
  congr 1; omega
 ·rw [if_neg hn]
  cases hd : Lib.decDigits n.toNat with
  | nil => exact absurd hd (ZtM _)
  | cons b r =>
   have hb : Zpd b := Zw6 _ n.toNat (Nat.le_refl _) b (by rw [hd]; simp)
   unfold Zpd at hb
   have hm := Zw8 (u := n.toNat) (by omega)
   rw [hd] at hm
   simp only [Lib.atoiAll]
   rw [if_neg (by omega), hm]
   simp only
   rw [if_neg (by omega), if_neg (by omega), if_neg (by omega)]
   congr 1; omega
theorem ZzO {n : Int} (h : Zno n) : (Lib.itoa n).length ≤ 21 := by
 unfold Zno at h
 unfold Lib.itoa
 have hp : (9223372036854775808 : Nat) < 10 ^ (19 + 1) := by decide
 split
 ·have := Zs5 19 n.natAbs (by omega); simp; omega
 ·have := Zs5 19 n.toNat (by omega); omega
theorem Zrs (n : Int) : (Zru n).data.toList = Lib.itoa n := rfl
theorem ZqW {l : List UInt8} {v : Int} (h : Lib.atoiAll l = .ok v) : Zno v := by
 unfold Zno
 cases l with
 | nil => cases h
 | cons c r =>
  simp only [Lib.atoiAll] at h
  split at h
  ·cases h
  ·cases h
  ·rename_i u hu
   split at h
   ·cases h
   ·split at h
    ·cases h
    ·injection h with h
     split at h <;> omega
def ZEI (n : Nat) (c : UInt8) : Nat := 10 * n + (c.toNat - 48)
def ZhR (n : Nat) (l : List UInt8) : Nat := l.foldl ZEI n
theorem Zze (a b : List UInt8) (n : Nat) : ZhR n (a ++ b) = ZhR (ZhR n a) b := List.foldl_append
theorem ZmA (n : Nat) : ZhR n [] = n := List.foldl_nil
theorem Zkh (n : Nat) (c : UInt8) (l : List UInt8) : ZhR n (c :: l) = ZhR (10 * n + (c.toNat - 48)) l := List.foldl_cons ..
theorem ZuE (c : UInt8) : ZhR 0 [c] = c.toNat - 48 := by rw [Zkh, ZmA]; omega
theorem Zsk (l : List UInt8) (c : UInt8) : ZhR 0 (l ++ [c]) = 10 * ZhR 0 l + (c.toNat - 48) := by rw [Zze, Zkh, ZmA]
theorem Zpg : ∀ (l : List UInt8) (n : Nat), n ≤ ZhR n l
 | [], n => by rw [ZmA]; exact Nat.le_refl _
 | c :: l, n => by rw [Zkh]; exact Nat.le_trans (by omega) (Zpg l _)
def Zit (l : List UInt8) : Bool := match l with
 | [] => false
 | c :: r => (r.isEmpty || !(c.toNat == 48)) && (c :: r).all Zgi && decide (ZhR 0 (c :: r) ≤ 9223372036854775807)
theorem ZmI (c : UInt8) : Zgi c = true ↔ 48 ≤ c.toNat ∧ c.toNat ≤ 57 := by
 unfold Zgi; rw [Bool.and_eq_true, decide_eq_true_iff, decide_eq_true_iff]
theorem ZAQ : ∀ (n u : Nat), u ≤ n → ZhR 0 (Lib.decDigits u) = u := by
 intro n
 induction n with
 | zero =>
  intro u hu
  rw [Lib.decDigits, dif_pos (by omega), ZuE, Ziz (by omega)]; omega
 | succ n ih =>
  intro u hu
  rw [Lib.decDigits]
  split
  ·rw [ZuE, Ziz (by omega)]; omega
  ·rw [Zsk, ih (u / 10) (by omega), Ziz (by omega)]; omega
theorem Zzf : ∀ (n u : Nat), u ≤ n → 0 < u → ∀ c r, Lib.decDigits u = c :: r → c.toNat ≠ 48 := by
 intro n
 induction n with
 | zero => intro u hu h0; omega
 | succ n ih =>
  intro u hu h0 c r h
  rw [Lib.decDigits] at h
  split at h
  ·injection h with h; rw [← h, Ziz (by omega)]; omega
  ·cases hd : Lib.decDigits (u / 10) with
   | nil => exact absurd hd (ZtM _)
   | cons b r' =>
    rw [hd] at h
    injection h with h
    rw [← h]
    exact ih (u / 10) (by omega) (by omega) b r' hd
theorem Zxi {u : Nat} (h : u ≤ 9223372036854775807) : Zit (Lib.decDigits u) = true := by
 cases hd : Lib.decDigits u with
 | nil => exact absurd hd (ZtM _)
 | cons c r =>
  unfold Zit
  have hv := ZAQ u u (Nat.le_refl _)
  have hall := Zw6 u u (Nat.le_refl _)
  rw [hd] at hv hall
  have h1 : (c :: r).all Zgi = true := List.all_eq_true.2 fun x hx => (ZmI x).2 (hall x hx)
  have h2 : (r.isEmpty || !(c.toNat == 48)) = true := by
   rcases Nat.eq_zero_or_pos u with h0 | h0
   ·subst h0
    rw [Lib.decDigits, dif_pos (by omega)] at hd
    injection hd with _ hd
    rw [← hd]; rfl
   ·have := Zzf u u (Nat.le_refl _) h0 c r hd
    rw [show (c.toNat == 48) = false from by rw [beq_eq_false_iff_ne]; exact this]; simp
  simp only [h1, h2, hv, Bool.true_and]
  exact decide_eq_true h
theorem Zsx {c : UInt8} {k : Nat} (h : 48 ≤ c.toNat) (hk : k = c.toNat - 48) : UInt8.ofNat (48 + k) = c := by
 apply UInt8.toNat_inj.1
 have := c.toNat_lt
 rw [UInt8.toNat_ofNat', hk]; omega
theorem Zr6 : ∀ (n : Nat) (l : List UInt8), l.length = n → l ≠ [] → (∀ x ∈ l, Zgi x = true) → (∀ c r, l = c :: r → r = [] ∨ c.toNat ≠ 48) → Lib.decDigits (ZhR 0 l) = l := by
 intro n
 induction n with
 | zero => intro l hl hne; exact absurd (List.eq_nil_of_length_eq_zero hl) hne
 | succ n ih =>
  intro l hl hne hall hh
  rcases List.eq_nil_or_concat l with h0 | ⟨b, c, hc⟩
  ·exact absurd h0 hne
  ·rw [List.concat_eq_append] at hc
   subst hc
   have hcd := (ZmI c).1 (hall c (by simp))
   rw [Zsk]
   cases b with
   | nil =>
    rw [ZmA, Lib.decDigits, dif_pos (by omega), Zsx hcd.1 (by omega)]; rfl
   | cons d b =>
    have hlen : (d :: b).length = n := by simp at hl ⊢; omega
    have ZFH : d.toNat ≠ 48 := by
     rcases hh d (b ++ [c]) rfl with h | h
     ·simp at h
     ·exact h
    have hih := ih (d :: b) hlen (by simp) (fun x hx => hall x (by simp at hx ⊢; rcases hx with h | h; exact .inl h; exact .inr (.inl h))) (fun e r he => by injection he with h1 h2; subst h1; exact .inr ZFH)
    have hpos : 0 < ZhR 0 (d :: b) := by
     have hdd := (ZmI d).1 (hall d (by simp))
     have := Zpg b (10 * 0 + (d.toNat - 48))
     rw [Zkh]; omega
    rw [Lib.decDigits, dif_neg (by omega)]
    have e1 : (10 * ZhR 0 (d :: b) + (c.toNat - 48)) / 10 = ZhR 0 (d :: b) := by omega
    have e2 : (10 * ZhR 0 (d :: b) + (c.toNat - 48)) % 10 = c.toNat - 48 := by omega
    rw [e1, e2, hih, Zsx hcd.1 rfl]
theorem ZsI {l : List UInt8} (h : Zit l = true) : Lib.decDigits (ZhR 0 l) = l ∧ ZhR 0 l ≤ 9223372036854775807 := by
 cases l with
 | nil => cases h
 | cons c r =>
  unfold Zit at h
  rw [Bool.and_eq_true, Bool.and_eq_true, decide_eq_true_iff, List.all_eq_true] at h
  refine ⟨Zr6 _ (c :: r) rfl (by simp) h.1.2 fun d r' he => ?_, h.2⟩
  injection he with h1 h2
  subst h1 h2
  have := h.1.1
  rw [Bool.or_eq_true] at this
  rcases this with h3 | h3
  ·exact .inl (by simpa using h3)
  ·exact .inr (by simpa using h3)

theorem w64 {x : Int} (h : -9223372036854775808 ≤ x) (h' : x ≤ 9223372036854775807) : IntKind.i64.wrap x = x := IntWalk.i64_in x ⟨h, by omega⟩
theorem w8 {x : Int} (h : 0 ≤ x) (h' : x ≤ 255) : IntKind.u8.wrap x = x := by
 unfold IntKind.wrap
 simp [IntKind.bits, IntKind.signed]
 omega
theorem ZAj (s : ByteArray) (hs : s.size ≤ 1000000000) : ∀ (d k m : Nat), s.size - k = d → k ≤ s.size → m ≤ 9223372036854775807 → ZaL s ((m : Nat) : Int) k =
  some (if ((s.data.toList.drop k).all Zgi && decide (ZhR m (s.data.toList.drop k) ≤ 9223372036854775807)) = true then (((ZhR m (s.data.toList.drop k) : Nat) : Int), true) else (0, false)) := by
 intro d
 induction d with
 | zero =>
  intro k m hk hle hm
  rw [ZaL, if_neg (by rw [decide_eq_true_iff]; omega), List.drop_eq_nil_of_le (by rw [sz]; omega), ZmA, List.all_nil, Bool.true_and, if_pos (decide_eq_true hm)]
 | succ d ih =>
  intro k m hk hle hm
  have hlt : k < s.size := by omega
  obtain ⟨y, hy⟩ : ∃ y, s.data.toList[k]? = some y := ⟨_, List.getElem?_eq_getElem (by rw [sz]; exact hlt)⟩
  rw [ZaL, if_pos (by rw [decide_eq_true_iff]; omega), Zef, hy, Zm, ZBf, Zm, ZiA hy, List.all_cons, Zkh]
  cases hd : Zgi y with
  | false => rw [Bool.not_false, ifT, Bool.false_and, Bool.false_and, ifF]
  | true =>
   have hdd := (ZmI y).1 hd
   have e8 : IntKind.u8.wrap (((y.toNat : Nat) : Int) - 48) = ((y.toNat - 48 : Nat) : Int) := by rw [w8 (by omega) (by omega)]; omega
   rw [Bool.not_true, ifF, Zm, e8, w64 (x := ((y.toNat - 48 : Nat) : Int)) (by omega) (by omega), w64 (x := 9223372036854775807 - ((y.toNat - 48 : Nat) : Int)) (by omega) (by omega)]
   have et : Int.tdiv (9223372036854775807 - ((y.toNat - 48 : Nat) : Int)) 10 = (9223372036854775807 - ((y.toNat - 48 : Nat) : Int)) / 10 := Int.tdiv_eq_ediv_of_nonneg (by omega)
   rw [et, w64 (x := (9223372036854775807 - ((y.toNat - 48 : Nat) : Int)) / 10) (by omega) (by omega), Bool.true_and]
   by_cases hg : 10 * m + (y.toNat - 48) ≤ 9223372036854775807
   ·rw [if_neg (by rw [decide_eq_true_iff]; omega), Zdt _ (by omega), w64 (x := 10 * ((m : Nat) : Int)) (by omega) (by omega), w64 (x := 10 * ((m : Nat) : Int) + ((y.toNat - 48 : Nat) : Int)) (by omega) (by omega)]
    have e : 10 * ((m : Nat) : Int) + ((y.toNat - 48 : Nat) : Int) = ((10 * m + (y.toNat - 48) : Nat) : Int) := by omega
    rw [e, ih (k + 1) (10 * m + (y.toNat - 48)) (by omega) (by omega) hg]
   ·rw [if_pos (by rw [decide_eq_true_iff]; omega)]
    have h1 := Zpg (s.data.toList.drop (k + 1)) (10 * m + (y.toNat - 48))
    rw [show decide (ZhR (10 * m + (y.toNat - 48)) (s.data.toList.drop (k + 1)) ≤ 9223372036854775807) = false from decide_eq_false (by omega), Bool.and_false, ifF]
theorem ZyA (s : ByteArray) (hs : s.size ≤ 1000000000) : Zcy s = some (if Zit s.data.toList = true then (((ZhR 0 s.data.toList : Nat) : Int), true) else (0, false)) := by
 unfold Zcy
 rw [ZmK]
 cases hl : s.data.toList with
 | nil =>
  have h0 : s.size = 0 := by rw [← sz, hl]; rfl
  rw [decide_eq_true h0, orT, ifT]; rfl
 | cons c r =>
  have h0 : s.size = r.length + 1 := by rw [← sz, hl]; rfl
  have hb : btI s 0 = some c := by have := Zef s 0; rw [hl] at this; exact this
  rw [decide_eq_false (by omega), orF, hb, Zm, Zm, show (48 : Int) = ((48 : Nat) : Int) from rfl, ZdC]
  have e1 : decide (((s.size : Nat) : Int) > 1) = !r.isEmpty := by
   cases r with
   | nil => exact decide_eq_false (by simp at h0; omega)
   | cons a b => exact decide_eq_true (by simp at h0; omega)
  rw [e1]
  have e2 : Zit (c :: r) = ((r.isEmpty || !(c.toNat == 48)) && (c :: r).all Zgi && decide (ZhR 0 (c :: r) ≤ 9223372036854775807)) := rfl
  rw [e2]
  cases hz : ((c.toNat == 48) && !r.isEmpty) with
  | true =>
   have : (r.isEmpty || !(c.toNat == 48)) = false := by revert hz; cases (c.toNat == 48) <;> cases r.isEmpty <;> simp
   rw [ifT, this, Bool.false_and, Bool.false_and, ifF]
  | false =>
   have : (r.isEmpty || !(c.toNat == 48)) = true := by revert hz; cases (c.toNat == 48) <;> cases r.isEmpty <;> simp
   have hh := ZAj s hs _ 0 0 rfl (by omega) (by omega)
   rw [ifF, this, Bool.true_and]
   rw [List.drop_zero, hl] at hh
   exact hh

def spd : List UInt8 → Option (List UInt8 × List UInt8)
 | [] => none
 | b :: l => match spd l with
  | some p => some (b :: p.1, p.2)
  | none => if b.toNat = 36 then some ([], l) else none
theorem Zs1 : ∀ {l : List UInt8} {p : List UInt8 × List UInt8}, spd l = some p → ∃ b : UInt8, b.toNat = 36 ∧ l = p.1 ++ b :: p.2
 | [], p, h => by cases h
 | c :: l, p, h => by
  unfold spd at h
  cases hs : spd l with
  | some q =>
   rw [hs] at h
   injection h with h
   obtain ⟨b, hb, hl⟩ := Zs1 hs
   subst h
   exact ⟨b, hb, by rw [hl]; rfl⟩
  | none =>
   rw [hs] at h
   simp only at h
   split at h
   ·injection h with h; subst h; exact ⟨c, by assumption, rfl⟩
   ·cases h
theorem Zug (y : UInt8) : ∀ l : List UInt8, spd (l ++ [y]) = if y.toNat = 36 then some (l, []) else (spd l).map fun p => (p.1, p.2 ++ [y])
 | [] => rfl
 | b :: l => by
  rw [List.cons_append]
  unfold spd
  rw [Zug y l]
  by_cases h : y.toNat = 36
  ·rw [if_pos h, if_pos h]
  ·rw [if_neg h, if_neg h]
   cases spd l with
   | some p => rfl
   | none =>
    simp only [Option.map_none]
    split <;> rfl
def Zua (l : List UInt8) : Int := match spd l with
 | some p => ((p.1.length : Nat) : Int)
 | none => -1
theorem ZzI (s : ByteArray) (hs : s.size ≤ 1000000000) : ∀ k, k ≤ s.size → ZK s 36 (((k : Nat) : Int) - 1) = some (Zua (s.data.toList.take k)) := by
 intro k
 induction k with
 | zero => intro _; rw [ZK, if_neg (by rw [decide_eq_true_iff]; omega)]; rfl
 | succ k ih =>
  intro hk
  obtain ⟨y, hy⟩ : ∃ y, s.data.toList[k]? = some y := ⟨_, List.getElem?_eq_getElem (by rw [sz]; exact hk)⟩
  have e : ((k + 1 : Nat) : Int) - 1 = ((k : Nat) : Int) := by omega
  rw [e, ZK, if_pos (by rw [decide_eq_true_iff]; omega), Zef, hy, Zm, show (36 : Int) = ((36 : Nat) : Int) from rfl, ZdC]
  have ht : s.data.toList.take (k + 1) = s.data.toList.take k ++ [y] := by rw [List.take_add_one, hy]; rfl
  have hl : (s.data.toList.take k).length = k := by rw [List.length_take, sz]; omega
  unfold Zua
  rw [ht, Zug]
  by_cases h : y.toNat = 36
  ·rw [if_pos (by rw [beq_iff_eq]; exact h), if_pos h]; simp only [hl]
  ·rw [if_neg (by rw [beq_iff_eq]; exact h), if_neg h, w64 (by omega) (by omega)]
   have := ih (by omega)
   rw [show ((36 : Nat) : Int) = 36 from rfl, this]
   unfold Zua
   cases spd (s.data.toList.take k) <;> rfl
theorem ZBR (s : ByteArray) (hs : s.size ≤ 1000000000) : ZbL s 36 = some (Zua s.data.toList) := by
 unfold ZbL ZaK
 rw [w64 (by omega) (by omega), ZzI s hs s.size (Nat.le_refl _), Zm, List.take_of_length_le (by rw [sz]; omega)]
def Zh6 (s : ByteArray) : ByteArray × Int × Bool :=
 match spd s.data.toList with
 | some p => if (ZlX (mkB p.1) && Zit p.2) = true then (mkB p.1, ((ZhR 0 p.2 : Nat) : Int), true) else (ByteArray.mk #[], 0, false)
 | none => (ByteArray.mk #[], 0, false)
theorem ZxH {n : Int} (h : Zno n) : strconv_Itoa n = some (Zru n) := by
 unfold strconv_Itoa
 have h' : -9223372036854775808 ≤ n ∧ n ≤ 9223372036854775807 := h
 rw [Zdt _ h']
def Zwi (b : ByteArray) (n : Int) : ByteArray := if (decide (n < 0) || !ZlX b) = true then ByteArray.mk #[] else (b ++ ByteArray.mk #[36]) ++ Zru n
theorem ZB3 {b : ByteArray} {n : Int} (hb : b.size ≤ 1000000000) (hn : Zno n) : (ZV (((b.size + (ByteArray.mk #[36]).size : Nat) : Int) ≤ IntKind.i64.max) >>= fun _ => strconv_Itoa n >>= fun r9 =>
  ZV ((((b ++ (ByteArray.mk #[36])).size + r9.size : Nat) : Int) ≤ IntKind.i64.max) >>= fun _ => some ((b ++ (ByteArray.mk #[36])) ++ r9)) = some ((b ++ (ByteArray.mk #[36])) ++ Zru n) := by
 have e : (ByteArray.mk #[36]).size = 1 := rfl
 have hl : (Zru n).size ≤ 21 := by rw [← sz, Zrs]; exact ZzO hn
 have h1 : ((b.size + (ByteArray.mk #[36]).size : Nat) : Int) ≤ IntKind.i64.max := by rw [Zo4, e]; omega
 have h2 : (((b ++ (ByteArray.mk #[36])).size + (Zru n).size : Nat) : Int) ≤ IntKind.i64.max := by rw [Zo4, Zrc, e]; omega
 rw [Zdt _ h1, ZxH hn, Zm, Zdt _ h2]
theorem ZCZ (b : ByteArray) (n : Int) (hb : b.size ≤ 1000000000) (hn : Zno n) : ZfE b n = some (Zwi b n) := by
 unfold ZfE Zwi
 cases decide (n < 0) with
 | true => rw [orT, Bool.true_or, ifT, ifT]
 | false =>
  rw [orF, Zx7 b hb, Zm, Zm, Bool.false_or]
  cases ZlX b with
  | true => rw [Bool.not_true, ifF, ifF]; exact ZB3 hb hn
  | false => rw [Bool.not_false, ifT, ifT]
theorem ZtW (a : List UInt8) (b : UInt8) (r : List UInt8) : (a ++ b :: r).take a.length = a ∧ (a ++ b :: r).drop (a.length + 1) = r := by
 constructor
 ·rw [List.take_left']; rfl
 ·rw [← List.drop_drop, List.drop_left']
  ·rfl
  ·rfl
theorem Znv {a : List UInt8} (h : Zit a = true) : Lib.atoiAll a = .ok ((ZhR 0 a : Nat) : Int) := by
 obtain ⟨h1, h2⟩ := ZsI h
 have := Zxv (n := ((ZhR 0 a : Nat) : Int)) ⟨by omega, by omega⟩
 unfold Lib.itoa at this
 rw [if_neg (by omega), Int.toNat_natCast, h1] at this
 exact this
theorem Zx0 {a : List UInt8} {v : Int} (h : Lib.atoiAll a = .ok v) : (¬ v < 0 ∧ Lib.itoa v = a) ↔ Zit a = true := by
 constructor
 ·rintro ⟨h0, h1⟩
  have hr := ZqW h
  unfold Lib.itoa at h1
  rw [if_neg h0] at h1
  rw [← h1]
  exact Zxi (by unfold Zno at hr; omega)
 ·intro hc
  rw [Znv hc] at h
  injection h with h
  subst h
  refine ⟨by omega, ?_⟩
  unfold Lib.itoa
  rw [if_neg (by omega), Int.toNat_natCast, (ZsI hc).1]
theorem Zu6 (s : ByteArray) (hs : s.size ≤ 1000000000) : ZeG s = some (Zh6 s) := by
 unfold ZeG Zh6
 rw [ZBR s hs, Zm]
 unfold Zua
 cases hd : spd s.data.toList with
 | none => rfl
 | some p =>
  obtain ⟨b, hb, hl⟩ := Zs1 hd
  have hlen : s.size = p.1.length + 1 + p.2.length := by rw [← sz, hl]; simp; omega
  obtain ⟨t1, t2⟩ := ZtW p.1 b p.2
  simp only
  have ha : slS s (((p.1.length + 1 : Nat) : Int)) ((s.size : Nat) : Int) = some (mkB p.2) := by
   rw [ZnW s _ _ (by omega) (by omega)]
   congr 1
   refine ZfQ ?_
   rw [Ze4, ZeC, hl, t2]
   exact List.take_of_length_le (by omega)
  have hz : slS s ((0 : Nat) : Int) ((p.1.length : Nat) : Int) = some (mkB p.1) := by
   rw [ZnW s _ _ (by omega) (by omega)]
   congr 1
   refine ZfQ ?_
   rw [Ze4, ZeC, hl]
   exact t1
  rw [if_neg (by rw [decide_eq_true_iff]; omega), ZcZ (by omega), ha, Zm]
  have hat : Ze9 (mkB p.2) = some (Zwc (mkB p.2)) := by unfold Ze9; rw [Zdt _ (by rw [Zke]; omega)]
  rw [hat, Zm, hz]
  unfold Zwc
  rw [ZeC]
  have hno : ∀ e, Lib.atoiAll p.2 = e → (∀ v, e ≠ .ok v) → Zit p.2 = false := fun e he hv => by
   cases hc : Zit p.2 with
   | false => rfl
   | true => exact absurd (he.symm.trans (Znv hc)) (hv _)
  cases hat2 : Lib.atoiAll p.2
  rotate_left
  ·rw [hno _ hat2 (by simp), Bool.and_false, ifF]; rfl
  ·rw [hno _ hat2 (by simp), Bool.and_false, ifF]; rfl
  ·rename_i v
   have hr := ZqW hat2
   have hbk := Zx0 hat2
   simp only
   rw [if_neg (by simp), Zm, ZCZ _ _ (by rw [Zke]; omega) hr, Zm]
   have ZGp : b = 36 := UInt8.toNat_inj.1 hb
   have hkey : ((Zwi (mkB p.1) v).toList == s.toList) = (ZlX (mkB p.1) && Zit p.2) := by
    rw [ZaU, ZaU, hl]
    unfold Zwi
    cases hst : ZlX (mkB p.1) with
    | false =>
     rw [Bool.not_false, Bool.or_true, ifT, Bool.false_and, beq_eq_false_iff_ne]
     intro h
     have := congrArg List.length h
     simp at this
    | true =>
     rw [Bool.not_true, Bool.or_false, Bool.true_and]
     by_cases hv : v < 0
     ·have hc : Zit p.2 = false := by
       cases hc : Zit p.2 with
       | false => rfl
       | true => exact absurd hv (hbk.2 hc).1
      rw [decide_eq_true hv, ifT, hc, beq_eq_false_iff_ne]
      intro h
      have := congrArg List.length h
      simp at this
     ·rw [decide_eq_false hv, ifF, ZmC, ZmC, ZeC, Zrs]
      have e36 : (ByteArray.mk #[36]).data.toList = [36] := rfl
      rw [e36, ZGp, Bool.eq_iff_iff, beq_iff_eq, ← hbk, List.append_assoc]
      constructor
      ·intro h
       have h2 := List.append_cancel_left h
       injection h2 with _ h3
       exact ⟨hv, h3⟩
      ·rintro ⟨_, h⟩
       rw [h]; rfl
   rw [hkey]
   cases hc : (ZlX (mkB p.1) && Zit p.2) with
   | false => rw [Bool.not_false, ifF]; rfl
   | true =>
    rw [Bool.not_true, ifT]
    rw [Bool.and_eq_true] at hc
    have hv := hat2.symm.trans (Znv hc.2)
    injection hv with hv
    rw [hv]; rfl

def ZDx (s : ByteArray) (Zhx : Int) : Option (ByteArray × Int × Bool) :=
 (if (decide (Zhx < 0)) = true then some true else (slS s ((0 : Nat) : Int) Zhx) >>= fun z37 =>
 ZcI z37 >>= fun r38 =>
 some (!r38)) >>= fun c39 =>
 if c39 = true then
 some ((ByteArray.mk #[]), 0, false)
 else
 (slS s (IntKind.i64.wrap (Zhx + 1)) ((s.size : Nat) : Int)) >>= fun z42 =>
 Zcy z42 >>= fun r43 =>
 if (!r43.2) = true then
 some ((ByteArray.mk #[]), 0, false)
 else
 (slS s ((0 : Nat) : Int) Zhx) >>= fun z46 =>
 some (z46, r43.1, true)
theorem ZzW (s : ByteArray) (hs : s.size ≤ 1000000000) : ∀ (d k : Nat) (Zhx : Int), s.size - k = d → k ≤ s.size → ZaQ s Zhx k = ZDx s (match spd (s.data.toList.drop k) with | some p => (((k + p.1.length : Nat)) : Int) | none => Zhx) := by
 intro d
 induction d with
 | zero =>
  intro k Zhx hk hle
  rw [ZaQ, if_neg (by rw [decide_eq_true_iff]; omega), List.drop_eq_nil_of_le (by rw [sz]; omega)]; rfl
 | succ d ih =>
  intro k Zhx hk hle
  have hlt : k < s.size := by omega
  obtain ⟨y, hy⟩ : ∃ y, s.data.toList[k]? = some y := ⟨_, List.getElem?_eq_getElem (by rw [sz]; exact hlt)⟩
  rw [ZaQ, if_pos (by rw [decide_eq_true_iff]; omega), Zef, hy, Zm, show (36 : Int) = ((36 : Nat) : Int) from rfl, ZdC, ZiA hy]
  have e : spd (y :: s.data.toList.drop (k + 1)) = match spd (s.data.toList.drop (k + 1)) with | some p => some (y :: p.1, p.2) | none => if y.toNat = 36 then some ([], s.data.toList.drop (k + 1)) else none := by rw [spd]; (try (cases spd (s.data.toList.drop (k + 1)) <;> rfl))
  rw [e]
  by_cases h : y.toNat = 36
  ·rw [if_pos (by rw [beq_iff_eq]; exact h), Zdt _ (by omega), ih (k + 1) _ (by omega) (by omega), if_pos h]
   cases spd (s.data.toList.drop (k + 1)) with
   | none => rfl
   | some p => simp only [List.length_cons]; congr 1; omega
  ·rw [if_neg (by rw [beq_iff_eq]; exact h), Zdt _ (by omega), ih (k + 1) _ (by omega) (by omega), if_neg h]
   cases spd (s.data.toList.drop (k + 1)) with
   | none => rfl
   | some p => simp only [List.length_cons]; congr 1; omega
theorem Zzp (s : ByteArray) (hs : s.size ≤ 1000000000) : ZcH s = some (Zh6 s) := by
 unfold ZcH Zh6
 rw [ZzW s hs _ 0 (-1) rfl (by omega), List.drop_zero]
 cases hd : spd s.data.toList with
 | none => rfl
 | some p =>
  obtain ⟨b, hb, hl⟩ := Zs1 hd
  have hlen : s.size = p.1.length + 1 + p.2.length := by rw [← sz, hl]; simp; omega
  obtain ⟨t1, t2⟩ := ZtW p.1 b p.2
  have ha : slS s (((p.1.length + 1 : Nat) : Int)) ((s.size : Nat) : Int) = some (mkB p.2) := by
   rw [ZnW s _ _ (by omega) (by omega)]
   congr 1
   refine ZfQ ?_
   rw [Ze4, ZeC, hl, t2]
   exact List.take_of_length_le (by omega)
  have hz : slS s ((0 : Nat) : Int) ((p.1.length : Nat) : Int) = some (mkB p.1) := by
   rw [ZnW s _ _ (by omega) (by omega)]
   congr 1
   refine ZfQ ?_
   rw [Ze4, ZeC, hl]
   exact t1
  simp only [Nat.zero_add]
  unfold ZDx
  rw [decide_eq_false (by omega), orF, hz, Zm, ZBG _ (by rw [Zke]; omega), Zm, Zm, ZcZ (by omega), ha]
  cases ZlX (mkB p.1) with
  | false => rw [Bool.not_false, ifT, Bool.false_and, ifF]
  | true =>
   rw [Bool.not_true, ifF, Zm, ZyA _ (by rw [Zke]; omega), Zm, ZeC, Bool.true_and]
   cases Zit p.2 with
   | false => rfl
   | true => rfl
def ZnY (s : ByteArray) : Bool := if (Zh6 s).2.2 = true then Zdr (Zh6 s).1.data.toList == 1 else (Zdr s.data.toList == 1 && !(s.toList == [102, 111, 114, 97, 108, 108]))
theorem Zta (s : ByteArray) (hs : s.size ≤ 1000000000) : Zc3 s = some (if Zdr s.data.toList = 0 then (if (Zh6 s).2.2 = true then 7 else 0) else Zdr s.data.toList) := by
 unfold Zc3 Zdr
 rw [ZBi, Zm, Zzl, ZvW, Zrx]
 cases hw : ZhA s.data.toList with
 | true =>
  obtain ⟨c, r, hl, hb⟩ := ZoB (ZgT hw).1
  have hns : Zfa.contains s.data.toList = false := by
   cases h : Zfa.contains s.data.toList with
   | false => rfl
   | true => have := Zpv h; rw [Zij hw] at this; cases this
  cases Zdh.contains s.data.toList with
  | true => rfl
  | false =>
   rw [ifF, Zm, hns, ifF, Zm, hb, ZAB, Zm, ZBr, Zm, Zm, Zm, ifT, ifT, ifF]
   have hu : Zid s.data.toList = ZhG c := by rw [hl]; rfl
   rw [hu]
   cases ZhG c <;> rfl
 | false =>
  have hnr : Zdh.contains s.data.toList = false := by
   cases h : Zdh.contains s.data.toList with
   | false => rfl
   | true => have := ZyD h; rw [hw] at this; cases this
  rw [hnr, ifF, Zm, ifF]
  cases hsy : ZeB s.data.toList with
  | true =>
   obtain ⟨c, r, hl, hb⟩ := ZoB (Zml hsy).1
   have hu : Zqe s.data.toList = (c.toNat == 58) := by rw [hl]; rfl
   rw [hu]
   cases Zfa.contains s.data.toList with
   | true => rfl
   | false =>
    rw [ifF, Zm, ZDm, ifF, Zm, ifF, Zm, hb, ZAB, Zm, show (58 : Int) = ((58 : Nat) : Int) from rfl, ZdC, Zm, Zm, ifT, ifT, ifF]
    cases (c.toNat == 58) <;> rfl
  | false =>
   have hnr2 : Zfa.contains s.data.toList = false := by
    cases h : Zfa.contains s.data.toList with
    | false => rfl
    | true => have := Zpv h; rw [hsy] at this; cases this
   rw [hnr2, ifF, Zm, ZDm, ifF, Zm, ifF, Zm, ZDm, ifF, Zm, ifF, Zu6 s hs, Zm]
   cases (Zh6 s).2.2 <;> rfl

theorem Zpc (s : ByteArray) : (Zh6 s).1.size ≤ s.size := by
 unfold Zh6
 cases hd : spd s.data.toList with
 | none => exact Nat.zero_le _
 | some p =>
  obtain ⟨b, hb, hl⟩ := Zs1 hd
  have hlen : s.size = p.1.length + 1 + p.2.length := by rw [← sz, hl]; simp; omega
  simp only
  split
  ·show (mkB p.1).size ≤ _; rw [Zke]; omega
  ·exact Nat.zero_le _
theorem ZwA : ∀ {l : List UInt8} {p : List UInt8 × List UInt8}, spl l = some p → p.1.length + p.2.length < l.length
 | [], p, h => by cases h
 | b :: l, p, h => by
  unfold spl at h
  split at h
  ·injection h with h; subst h; simp
  ·obtain ⟨q, hq, rfl⟩ := Option.map_eq_some_iff.1 h
   have := ZwA hq
   simp only [List.length_cons]; omega
theorem Zvv (s : ByteArray) : (ZhN s).2.1.size ≤ s.size := by
 unfold ZhN
 cases hd : spl s.data.toList with
 | none => exact Nat.zero_le _
 | some p =>
  have := ZwA hd
  rw [sz] at this
  simp only
  split
  ·show (mkB p.2).size ≤ _; rw [Zke]; omega
  ·exact Nat.zero_le _
theorem Ztb (s : ByteArray) (k : Int) (h0 : k ≠ 0) (h7 : k ≠ 7) : ((if Zdr s.data.toList = 0 then (if (Zh6 s).2.2 = true then (7 : Int) else 0) else Zdr s.data.toList) == k) = (Zdr s.data.toList == k) := by
 by_cases h : Zdr s.data.toList = 0
 ·rw [if_pos h, h]
  have e0 : ((0 : Int) == k) = false := by rw [beq_eq_false_iff_ne]; exact fun e => h0 e.symm
  have e7 : ((7 : Int) == k) = false := by rw [beq_eq_false_iff_ne]; exact fun e => h7 e.symm
  split
  ·rw [e7, e0]
  ·rfl
 ·rw [if_neg h]
theorem Zz9 (s : ByteArray) (hs : s.size ≤ 1000000000) : ZaS s = some (ZnY s) := by
 unfold ZaS ZnY
 rw [Zu6 s hs, Zm]
 cases (Zh6 s).2.2 with
 | true =>
  have := Zpc s
  rw [ifT, ifT, Zta _ (by omega), Zm, Ztb _ 1 (by decide) (by decide)]
 | false =>
  rw [ifF, ifF, Zta _ hs, Zm, Ztb _ 1 (by decide) (by decide), ZaU (ByteArray.mk #[102, 111, 114, 97, 108, 108])]
theorem ZA9 (s : ByteArray) (hs : s.size ≤ 1000000000) : Zbk s = some (ZnY s) := by
 unfold Zbk ZnY
 rw [Zzp s hs, Zm]
 cases (Zh6 s).2.2 with
 | true => rw [ifT, ifT, Zme, Zm]
 | false => rw [ifF, ifF, Zme, Zm, ZaU (ByteArray.mk #[102, 111, 114, 97, 108, 108])]
def unS (b : ByteArray) : ByteArray := if (ZhN b).2.2 = true then (ZhN b).2.1 else b
def Zu1 (s : ByteArray) : Bool :=
 let b := unS (if (Zh6 s).2.2 = true then (Zh6 s).1 else s)
 (Zdr b.data.toList == 2) || (Zdr b.data.toList == 4)
theorem Zzk (b : ByteArray) (hs : b.size ≤ 1000000000) : ZcJ b = some ((Zdr b.data.toList == 2) || (Zdr b.data.toList == 4)) := by
 unfold ZcJ
 rw [Zta b hs, Zm, Ztb _ 2 (by decide) (by decide), Ztb _ 4 (by decide) (by decide)]
theorem Zy9 (b : ByteArray) (hs : b.size ≤ 1000000000) : ZcM b = some ((Zdr (unS b).data.toList == 2) || (Zdr (unS b).data.toList == 4)) := by
 unfold ZcM unS
 rw [ZwW b hs, Zm]
 cases (ZhN b).2.2 with
 | true => have := Zvv b; rw [ifT, ifT, Zzk _ (by omega)]
 | false => rw [ifF, ifF, Zzk _ hs]
theorem ZDX (s : ByteArray) (hs : s.size ≤ 1000000000) : Zd9 s = some (Zu1 s) := by
 unfold Zd9 Zu1
 rw [Zu6 s hs, Zm]
 cases (Zh6 s).2.2 with
 | true => have := Zpc s; rw [ifT, Zy9 _ (by omega)]; rfl
 | false => rw [ifF, Zy9 _ hs]; rfl
theorem Zz8 (b : ByteArray) : Za3 b = some ((Zdr b.data.toList == 2) || (Zdr b.data.toList == 4)) := by
 unfold Za3
 rw [Zme, Zm]
theorem ZyL (b : ByteArray) (hs : b.size ≤ 1000000000) : Za6 b = some ((Zdr (unS b).data.toList == 2) || (Zdr (unS b).data.toList == 4)) := by
 unfold Za6 unS
 rw [Zwp b hs, Zm]
 cases (ZhN b).2.2 with
 | true => rw [ifT, ifT, Zz8]
 | false => rw [ifF, ifF, Zz8]
theorem ZEw (s : ByteArray) (hs : s.size ≤ 1000000000) : Zcm s = some (Zu1 s) := by
 unfold Zcm Zu1
 rw [Zzp s hs, Zm]
 cases (Zh6 s).2.2 with
 | true => have := Zpc s; rw [Bool.not_true, ifF, ZyL _ (by omega)]; rfl
 | false => rw [Bool.not_false, ifT, ZyL _ hs]; rfl

theorem ZBn {s : ByteArray} {k : Nat} {y : UInt8} (h : s.data.toList[k]? = some y) : s.get! k = y := by
 obtain ⟨h1, h2⟩ := List.getElem?_eq_some_iff.1 h
 have hk : k < s.data.size := by simpa using h1
 show s.data[k]! = y
 rw [getElem!_pos s.data k hk]
 simpa using h2
theorem ZxY (s : ByteArray) {k : Nat} {y : UInt8} (h : s.data.toList[k]? = some y) : ((Utf8.decode s k).1 = 44 ↔ y.toNat = 44) ∧ (y.toNat = 44 → (Utf8.decode s k).2 = 1) := by
 have hy := ZBn h
 have hre : Utf8.runeError ≠ 44 := by decide
 unfold Utf8.decode
 simp only [Nat.add_zero, hy]
 by_cases h1 : y.toNat < 128
 ·rw [if_pos h1]; exact ⟨Iff.rfl, fun _ => rfl⟩
 ·rw [if_neg h1]
  refine ⟨⟨fun h2 => ?_, fun h2 => by omega⟩, fun h2 => by omega⟩
  exfalso
  revert h2
  repeat' split
  all_goals first | (intro h2; exact hre h2) | (intro h2; simp only at h2; simp_all; done) | (intro h2; simp only at h2; rename_i q; simp only [Bool.and_eq_true, decide_eq_true_iff] at q; omega) | (intro h2; simp only at h2; rename_i q; omega)
theorem ZAN (z : ByteArray) : ∀ (d k : Nat), z.size - k = d → ZbW z k = some ((z.data.toList.drop k).all fun c => c.toNat == 44) := by
 intro d
 induction d with
 | zero =>
  intro k hk
  rw [ZbW, if_neg (by rw [decide_eq_true_iff]; omega), List.drop_eq_nil_of_le (by rw [sz]; omega)]; rfl
 | succ d ih =>
  intro k hk
  obtain ⟨y, hy⟩ : ∃ y, z.data.toList[k]? = some y := ⟨_, List.getElem?_eq_getElem (by rw [sz]; omega)⟩
  obtain ⟨h1, h2⟩ := ZxY z hy
  rw [ZbW, if_pos (by rw [decide_eq_true_iff]; omega), ZiA hy, List.all_cons, show (44 : Int) = ((44 : Nat) : Int) from rfl, bne, ZdC]
  by_cases h : y.toNat = 44
  ·rw [h1.2 h, h2 h, ih (k + 1) (by omega), h]; rfl
  ·have e : ((Utf8.decode z k).1 == 44) = false := by rw [beq_eq_false_iff_ne]; exact fun q => h (h1.1 q)
   have e2 : (y.toNat == 44) = false := by rw [beq_eq_false_iff_ne]; exact h
   rw [e, e2]; rfl

def ZtF (j : Nat) : List UInt8 := 40 :: (List.replicate j 44 ++ [41])
theorem Zt2 (j : Nat) : (ZtF j).length = j + 2 := by unfold ZtF; simp
def ZrU (l : List UInt8) : Bool := (List.range 6).any fun j => l == ZtF (j + 1)
theorem shape {l : List UInt8} {a b : UInt8} (h3 : 3 ≤ l.length) (ha : l[0]? = some a) (hb : l[l.length - 1]? = some b) : l = a :: ((l.drop 1).take (l.length - 2) ++ [b]) := by
 cases l with
 | nil => simp at h3
 | cons c t =>
  have hc : c = a := by simpa using ha
  subst hc
  have ht : t ≠ [] := by intro h; subst h; simp at h3
  have hlast : t.getLast ht = b := by
   rw [List.getLast_eq_getElem]
   have : (c :: t)[(c :: t).length - 1]? = t[t.length - 1]? := by
    have e : (c :: t).length - 1 = (t.length - 1) + 1 := by simp only [List.length_cons] at h3 ⊢; omega
    rw [e, List.getElem?_cons_succ]
   rw [this] at hb
   exact (List.getElem?_eq_some_iff.1 hb).2
  have e2 : (c :: t).length - 2 = t.length - 1 := by simp only [List.length_cons]; omega
  rw [e2]
  show c :: t = c :: (t.take (t.length - 1) ++ [b])
  rw [← List.dropLast_eq_take, ← hlast, List.dropLast_concat_getLast]
theorem ZAK {l : List UInt8} {a b : UInt8} (h3 : 3 ≤ l.length) (h8 : l.length ≤ 8) (ha : l[0]? = some a) (hb : l[l.length - 1]? = some b) :
  ZrU l = (a.toNat == 40 && b.toNat == 41 && ((l.drop 1).take (l.length - 2)).all fun c => c.toNat == 44) := by
 have hs := shape h3 ha hb
 have hml : ((l.drop 1).take (l.length - 2)).length = l.length - 2 := by rw [List.length_take, List.length_drop]; omega
 rw [Bool.eq_iff_iff]
 unfold ZrU
 rw [List.any_eq_true, Bool.and_eq_true, Bool.and_eq_true, beq_iff_eq, beq_iff_eq, List.all_eq_true]
 constructor
 ·rintro ⟨j, hj, h⟩
  rw [beq_iff_eq] at h
  have hl := congrArg List.length h
  rw [Zt2] at hl
  have hj2 : l.length - 2 = j + 1 := by omega
  rw [hj2] at hs ⊢
  rw [h] at hs
  unfold ZtF at hs
  injection hs with h1 h2
  have h4 := List.append_inj h2 (by rw [List.length_replicate, List.length_take, List.length_drop]; simp)
  refine ⟨⟨by rw [← h1]; rfl, ?_⟩, fun x hx => ?_⟩
  ·have := h4.2; injection this with h5; rw [← h5]; rfl
  ·rw [h] at hx
   unfold ZtF at hx
   rw [← h4.1] at hx
   rw [List.eq_of_mem_replicate hx]; rfl
 ·rintro ⟨⟨h1, h2⟩, h4⟩
  refine ⟨l.length - 3, List.mem_range.2 (by omega), ?_⟩
  rw [beq_iff_eq]
  have ZGw : a = 40 := UInt8.toNat_inj.1 h1
  have ZGz : b = 41 := UInt8.toNat_inj.1 h2
  have hm : (l.drop 1).take (l.length - 2) = List.replicate (l.length - 2) 44 := by
   refine List.eq_replicate_iff.2 ⟨hml, fun x hx => ?_⟩
   have := h4 x hx
   rw [beq_iff_eq] at this
   exact UInt8.toNat_inj.1 this
  rw [hm, ZGw, ZGz] at hs
  unfold ZtF
  rw [show l.length - 3 + 1 = l.length - 2 from by omega]
  exact hs
def ZuV (l : List UInt8) : Bool := (l == [45, 62] || l == [91, 93]) || l == [40, 41]
theorem ZDO (s : ByteArray) (hs : s.size ≤ 1000000000) : Zea s = some (ZuV s.data.toList || ZrU s.data.toList) := by
 unfold Zea
 have e0 : (((s.toList == (ByteArray.mk #[45, 62]).toList) || (s.toList == (ByteArray.mk #[91, 93]).toList)) || (s.toList == (ByteArray.mk #[40, 41]).toList)) = ZuV s.data.toList := by
  rw [ZaU, ZaU, ZaU, ZaU]; rfl
 rw [e0]
 cases ZuV s.data.toList with
 | true => rfl
 | false =>
  rw [ifF, Bool.false_or]
  by_cases hn : 3 ≤ s.size ∧ s.size ≤ 8
  ·have hlen : s.data.toList.length = s.size := sz s
   obtain ⟨a, ha⟩ : ∃ a, s.data.toList[0]? = some a := ⟨_, List.getElem?_eq_getElem (by omega)⟩
   obtain ⟨b, hb⟩ : ∃ b, s.data.toList[s.size - 1]? = some b := ⟨_, List.getElem?_eq_getElem (by omega)⟩
   have hc : (decide (((s.size : Nat) : Int) < 3) || decide (((s.size : Nat) : Int) > 8)) = false := by
    rw [Bool.or_eq_false_iff]; exact ⟨decide_eq_false (by omega), decide_eq_false (by omega)⟩
   have hb0 : btI s 0 = some a := by have := Zef s 0; rw [ha] at this; exact this
   have e1 : IntKind.i64.wrap (((s.size : Nat) : Int) - 1) = ((s.size - 1 : Nat) : Int) := by rw [w64 (by omega) (by omega)]; omega
   rw [ZAK (by omega) (by omega) ha (by rw [hlen]; exact hb), hc, orF, hb0, Zm, Zm, show (40 : Int) = ((40 : Nat) : Int) from rfl, bne, ZdC]
   cases h40 : (a.toNat == 40) with
   | false => rw [Bool.not_false, orT, ifT]; rfl
   | true =>
    rw [Bool.not_true, orF, e1, Zef, hb, Zm, Zm, show (41 : Int) = ((41 : Nat) : Int) from rfl, bne, ZdC]
    cases h41 : (b.toNat == 41) with
    | false => rw [Bool.not_false, ifT]; rfl
    | true =>
     have hsl : slS s 1 ((s.size - 1 : Nat) : Int) = some (s.extract 1 (s.size - 1)) := ZnW s 1 (s.size - 1) (by omega) (by omega)
     rw [Bool.not_true, ifF, hsl, Zm, ZAN _ _ 0 rfl, List.drop_zero, Ze4, hlen, show s.size - 1 - 1 = s.size - 2 from by omega]; rfl
  ·have hc : (decide (((s.size : Nat) : Int) < 3) || decide (((s.size : Nat) : Int) > 8)) = true := by
    rw [Bool.or_eq_true, decide_eq_true_iff, decide_eq_true_iff]; omega
   rw [hc, orT, orT, ifT]
   have : ZrU s.data.toList = false := by
    cases h : ZrU s.data.toList with
    | false => rfl
    | true =>
     unfold ZrU at h
     rw [List.any_eq_true] at h
     obtain ⟨j, hj, h⟩ := h
     rw [beq_iff_eq] at h
     have hl := congrArg List.length h
     rw [Zt2, sz] at hl
     have := List.mem_range.1 hj
     omega
   rw [this]

theorem ZF1 (n : Nat) (hn : n ≤ 1000) : ∀ (d i : Nat) (s : ByteArray), n - i = d → i ≤ n → s.size ≤ i + 1 → Zao ((n : Nat) : Int) s i = some (mkB (s.data.toList ++ (List.replicate (n - i) 44 ++ [41]))) := by
 have e41 : (ByteArray.mk #[41]).size = 1 := rfl
 have e44 : (ByteArray.mk #[44]).size = 1 := rfl
 intro d
 induction d with
 | zero =>
  intro i s hd hi hs
  rw [Zao, if_neg (by rw [decide_eq_true_iff]; omega), Zdt _ (by rw [Zo4, e41]; omega), show n - i = 0 from by omega]
  exact congrArg some (ZfQ (by rw [ZmC, ZeC]; rfl))
 | succ d ih =>
  intro i s hd hi hs
  rw [Zao, if_pos (by rw [decide_eq_true_iff]; omega), Zdt _ (by rw [Zo4, e44]; omega), Zdt _ (by omega), ih (i + 1) _ (by omega) (by omega) (by rw [Zrc, e44]; omega)]
  congr 2
  rw [ZmC, show n - i = (n - (i + 1)) + 1 from by omega, List.replicate_succ, List.append_assoc]; rfl
theorem tn (n : Nat) (h1 : 1 ≤ n) (hn : n ≤ 1000) : Zb4 ((n : Nat) : Int) = some (mkB (ZtF (n - 1))) := by
 unfold Zb4
 rw [ZF1 n hn _ 1 _ rfl h1 (by decide)]
 rfl
theorem ZHn (s : ByteArray) : ∀ (d k : Nat), 8 - k = d → 2 ≤ k → k ≤ 8 → ∃ r, Za2 s k = some r ∧ decide (r > 0) = (List.range' k (8 - k)).any fun j => s.data.toList == ZtF (j - 1) := by
 intro d
 induction d with
 | zero =>
  intro k hd h2 h8
  refine ⟨0, ?_, ?_⟩
  ·rw [Za2, if_neg (by rw [decide_eq_true_iff]; omega)]
  ·rw [hd]; rfl
 | succ d ih =>
  intro k hd h2 h8
  obtain ⟨r, hr, hr2⟩ := ih (k + 1) (by omega) (by omega) (by omega)
  rw [Za2, if_pos (by rw [decide_eq_true_iff]; omega), tn k (by omega) (by omega), Zm, ZaU, ZaU, ZeC]
  have e : List.range' k (8 - k) = k :: List.range' (k + 1) (8 - (k + 1)) := by rw [show 8 - k = (8 - (k + 1)) + 1 from by omega]; exact List.range'_succ ..
  rw [e, List.any_cons]
  cases h : (s.data.toList == ZtF (k - 1)) with
  | true => exact ⟨_, by rw [ifT], by rw [Bool.true_or]; exact decide_eq_true (by omega)⟩
  | false => exact ⟨r, by rw [ifF, Zdt _ (by omega), hr], by rw [Bool.false_or, hr2]⟩
theorem ZAC (s : ByteArray) : ∃ r, Zdu s = some r ∧ decide (r > 0) = ZrU s.data.toList := by
 obtain ⟨r, h1, h2⟩ := ZHn s 6 2 rfl (by omega) (by omega)
 refine ⟨r, h1, h2.trans ?_⟩
 unfold ZrU
 rfl
def ZxM (s : ByteArray) : Bool := (ZuV s.data.toList || ZrU s.data.toList) || Zu1 s
theorem ZEe (s : ByteArray) (hs : s.size ≤ 1000000000) : ZcD s = some (ZxM s) := by
 unfold ZcD ZxM
 have e0 : ∀ o : Bool, (((o || (s.toList == (ByteArray.mk #[45, 62]).toList)) || (s.toList == (ByteArray.mk #[91, 93]).toList)) || (s.toList == (ByteArray.mk #[40, 41]).toList)) = (o || ZuV s.data.toList) := fun o => by
  rw [ZaU, ZaU, ZaU, ZaU]
  unfold ZuV
  simp only [Bool.or_assoc]
 obtain ⟨r, h1, h2⟩ := ZAC s
 rw [ZEw s hs, Zm, e0, h1]
 cases Zu1 s with
 | true => rw [Bool.true_or, orT, Bool.or_true]
 | false =>
  rw [Bool.false_or, Bool.or_false]
  cases ZuV s.data.toList with
  | true => rfl
  | false => rw [orF, Zm, Zm, h2, Bool.false_or]

mutual
def Za.nod : Za → Nat | .mk _ _ _ ks => 1 + Za.nods ks
def Za.nods : List Za → Nat
 | [] => 0
 | k :: ks => Za.nod k + Za.nods ks
end
mutual
def Zj.nod : Zj → Nat | .mk ks => 1 + Zj.nods ks
def Zj.nods : List Zj → Nat
 | [] => 0
 | k :: ks => Zj.nod k + Zj.nods ks
end
theorem Zo1 (t : Za) : t.nod = 1 + Za.nods t.fKids := by cases t; rw [Za.nod]; rfl
theorem Zlj (t : Zj) : t.nod = 1 + Zj.nods t.fArgs := by cases t; rw [Zj.nod]; rfl
theorem ZgK (k : Za) (ks : List Za) : Za.nods (k :: ks) = k.nod + Za.nods ks := by rw [Za.nods]
theorem Zgy (k : Zj) (ks : List Zj) : Zj.nods (k :: ks) = k.nod + Zj.nods ks := by rw [Zj.nods]
def BIG : Nat := 1000000000000
theorem ZtZ (t : Za) : ∀ (xs : List Za) (n x : Nat), (∀ k ∈ xs, k.nod ≤ BIG → Zcv k = some ((k.nod : Nat) : Int)) → n + Za.nods xs ≤ BIG → Zdf ((n : Nat) : Int) t x xs = some ((n + Za.nods xs : Nat) : Int)
 | [], n, x, _, _ => by rw [Zdf, Za.nods]; rfl
 | k :: xs, n, x, h, hb => by
  rw [ZgK] at hb ⊢
  have hB : BIG = 1000000000000 := rfl
  rw [Zdf, h k (by simp) (by omega), Zm, w64 (by omega) (by omega)]
  have := ZtZ t xs (n + k.nod) (x + 1) (fun j hj => h j (by simp [hj])) (by omega)
  rw [show ((n : Nat) : Int) + ((k.nod : Nat) : Int) = ((n + k.nod : Nat) : Int) from by omega, this, Nat.add_assoc]
theorem ZzX (t : Za) : t.nod ≤ BIG → Zcv t = some ((t.nod : Nat) : Int) := by
 refine Za.ind (M := fun t => t.nod ≤ BIG → Zcv t = some ((t.nod : Nat) : Int)) (fun v ih hb => ?_) t
 rw [Zo1] at hb ⊢
 rw [Zcv]
 exact ZtZ v v.fKids 1 0 ih hb
theorem Zut (t : Za) : ∀ (xs : List Za) (n x : Nat), (∀ k ∈ xs, k.nod ≤ BIG → Zay k = some ((k.nod : Nat) : Int)) → n + Za.nods xs ≤ BIG → ZbE ((n : Nat) : Int) x t xs = some ((n + Za.nods xs : Nat) : Int)
 | [], n, x, _, _ => by rw [ZbE, Za.nods]; rfl
 | k :: xs, n, x, h, hb => by
  rw [ZgK] at hb ⊢
  have hB : BIG = 1000000000000 := rfl
  rw [ZbE, h k (by simp) (by omega), Zm, w64 (by omega) (by omega)]
  have := Zut t xs (n + k.nod) (x + 1) (fun j hj => h j (by simp [hj])) (by omega)
  rw [show ((n : Nat) : Int) + ((k.nod : Nat) : Int) = ((n + k.nod : Nat) : Int) from by omega, this, Nat.add_assoc]
theorem ZvI (t : Za) : t.nod ≤ BIG → Zay t = some ((t.nod : Nat) : Int) := by
 refine Za.ind (M := fun t => t.nod ≤ BIG → Zay t = some ((t.nod : Nat) : Int)) (fun v ih hb => ?_) t
 rw [Zo1] at hb ⊢
 rw [Zay]
 exact Zut v v.fKids 1 0 ih hb
theorem Zsw (t : Zj) : ∀ (xs : List Zj) (n x : Nat), (∀ k ∈ xs, k.nod ≤ BIG → Zby k = some ((k.nod : Nat) : Int)) → n + Zj.nods xs ≤ BIG → Zb1 ((n : Nat) : Int) t x xs = some ((n + Zj.nods xs : Nat) : Int)
 | [], n, x, _, _ => by rw [Zb1, Zj.nods]; rfl
 | k :: xs, n, x, h, hb => by
  rw [Zgy] at hb ⊢
  have hB : BIG = 1000000000000 := rfl
  rw [Zb1, h k (by simp) (by omega), Zm, w64 (by omega) (by omega)]
  have := Zsw t xs (n + k.nod) (x + 1) (fun j hj => h j (by simp [hj])) (by omega)
  rw [show ((n : Nat) : Int) + ((k.nod : Nat) : Int) = ((n + k.nod : Nat) : Int) from by omega, this, Nat.add_assoc]
theorem ZAg (t : Zj) : t.nod ≤ BIG → Zby t = some ((t.nod : Nat) : Int) := by
 refine Zj.ind (M := fun t => t.nod ≤ BIG → Zby t = some ((t.nod : Nat) : Int)) (fun v ih hb => ?_) t
 rw [Zlj] at hb ⊢
 rw [Zby]
 exact Zsw v v.fArgs 1 0 ih hb
theorem Zst (t : Zj) : ∀ (xs : List Zj) (n x : Nat), (∀ k ∈ xs, k.nod ≤ BIG → Zan k = some ((k.nod : Nat) : Int)) → n + Zj.nods xs ≤ BIG → ZaI ((n : Nat) : Int) x t xs = some ((n + Zj.nods xs : Nat) : Int)
 | [], n, x, _, _ => by rw [ZaI, Zj.nods]; rfl
 | k :: xs, n, x, h, hb => by
  rw [Zgy] at hb ⊢
  have hB : BIG = 1000000000000 := rfl
  rw [ZaI, h k (by simp) (by omega), Zm, w64 (by omega) (by omega)]
  have := Zst t xs (n + k.nod) (x + 1) (fun j hj => h j (by simp [hj])) (by omega)
  rw [show ((n : Nat) : Int) + ((k.nod : Nat) : Int) = ((n + k.nod : Nat) : Int) from by omega, this, Nat.add_assoc]
theorem ZAT (t : Zj) : t.nod ≤ BIG → Zan t = some ((t.nod : Nat) : Int) := by
 refine Zj.ind (M := fun t => t.nod ≤ BIG → Zan t = some ((t.nod : Nat) : Int)) (fun v ih hb => ?_) t
 rw [Zlj] at hb ⊢
 rw [Zan]
 exact Zst v v.fArgs 1 0 ih hb

mutual
def Za.dep : Za → Nat | .mk _ _ _ ks => Za.deps ks + 1
def Za.deps : List Za → Nat
 | [] => 0
 | k :: ks => max (Za.dep k) (Za.deps ks)
end
mutual
def Zj.dep : Zj → Nat | .mk ks => Zj.deps ks + 1
def Zj.deps : List Zj → Nat
 | [] => 0
 | k :: ks => max (Zj.dep k) (Zj.deps ks)
end
theorem ZvQ (t : Za) : t.dep = Za.deps t.fKids + 1 := by cases t; rw [Za.dep]; rfl
theorem Ztd (t : Zj) : t.dep = Zj.deps t.fArgs + 1 := by cases t; rw [Zj.dep]; rfl
theorem Zkq (k : Za) (ks : List Za) : Za.deps (k :: ks) = max k.dep (Za.deps ks) := by rw [Za.deps]
theorem ZnF (k : Zj) (ks : List Zj) : Zj.deps (k :: ks) = max k.dep (Zj.deps ks) := by rw [Zj.deps]
theorem Zxg (t : Za) : t.dep ≤ t.nod := by
 refine Za.ind (M := fun t => t.dep ≤ t.nod) (fun v ih => ?_) t
 have key : ∀ l : List Za, (∀ k ∈ l, k.dep ≤ k.nod) → Za.deps l ≤ Za.nods l := fun l => by
  induction l with
  | nil => intro _; rw [Za.deps, Za.nods]; exact Nat.le_refl _
  | cons k ks ihl => intro h; rw [Zkq, ZgK]; have h1 := h k (by simp); have h2 := ihl fun j hj => h j (by simp [hj]); omega
 have := key v.fKids ih
 rw [ZvQ, Zo1]; omega
theorem Zt1 (t : Zj) : t.dep ≤ t.nod := by
 refine Zj.ind (M := fun t => t.dep ≤ t.nod) (fun v ih => ?_) t
 have key : ∀ l : List Zj, (∀ k ∈ l, k.dep ≤ k.nod) → Zj.deps l ≤ Zj.nods l := fun l => by
  induction l with
  | nil => intro _; rw [Zj.deps, Zj.nods]; exact Nat.le_refl _
  | cons k ks ihl => intro h; rw [ZnF, Zgy]; have h1 := h k (by simp); have h2 := ihl fun j hj => h j (by simp [hj]); omega
 have := key v.fArgs ih
 rw [Ztd, Zlj]; omega
theorem Zgu (a b : Nat) : (if ((a : Nat) : Int) > ((b : Nat) : Int) then ((a : Nat) : Int) else ((b : Nat) : Int)) = ((max b a : Nat) : Int) := by
 split <;> omega
theorem ZsR (t : Za) : ∀ (xs : List Za) (n x : Nat), (∀ k ∈ xs, k.nod ≤ BIG → Zb3 k = some ((k.dep : Nat) : Int)) → Za.nods xs ≤ BIG → n ≤ BIG → ZcY ((n : Nat) : Int) t x xs = some ((max n (Za.deps xs) + 1 : Nat) : Int)
 | [], n, x, _, _, hn => by
  have hB : BIG = 1000000000000 := rfl
  rw [ZcY, Za.deps, w64 (by omega) (by omega)]
  rw [Nat.max_eq_left (Nat.zero_le _)]; rfl
 | k :: xs, n, x, h, hb, hn => by
  rw [ZgK] at hb
  rw [Zkq]
  have hd := Zxg k
  have hB : BIG = 1000000000000 := rfl
  rw [ZcY, h k (by simp) (by omega), Zm, Zgu]
  rw [ZsR t xs (max n k.dep) (x + 1) (fun j hj => h j (by simp [hj])) (by omega) (by omega), Nat.max_assoc]
theorem ZwQ (t : Za) : t.nod ≤ BIG → Zb3 t = some ((t.dep : Nat) : Int) := by
 refine Za.ind (M := fun t => t.nod ≤ BIG → Zb3 t = some ((t.dep : Nat) : Int)) (fun v ih hb => ?_) t
 rw [Zo1] at hb
 rw [ZvQ, Zb3]
 have := ZsR v v.fKids 0 0 ih (by omega) (Nat.zero_le _)
 rw [Nat.max_eq_right (Nat.zero_le _)] at this
 exact this
theorem ZsO (t : Za) : ∀ (xs : List Za) (n x : Nat), (∀ k ∈ xs, k.nod ≤ BIG → Zax k = some ((k.dep : Nat) : Int)) → Za.nods xs ≤ BIG → n ≤ BIG → Zbp ((n : Nat) : Int) x t xs = some ((max n (Za.deps xs) + 1 : Nat) : Int)
 | [], n, x, _, _, hn => by
  have hB : BIG = 1000000000000 := rfl
  rw [Zbp, Za.deps, w64 (by omega) (by omega)]
  rw [Nat.max_eq_left (Nat.zero_le _)]; rfl
 | k :: xs, n, x, h, hb, hn => by
  rw [ZgK] at hb
  rw [Zkq]
  have hd := Zxg k
  have hB : BIG = 1000000000000 := rfl
  rw [Zbp, h k (by simp) (by omega), Zm, Zgu]
  rw [ZsO t xs (max n k.dep) (x + 1) (fun j hj => h j (by simp [hj])) (by omega) (by omega), Nat.max_assoc]
theorem ZtA (t : Za) : t.nod ≤ BIG → Zax t = some ((t.dep : Nat) : Int) := by
 refine Za.ind (M := fun t => t.nod ≤ BIG → Zax t = some ((t.dep : Nat) : Int)) (fun v ih hb => ?_) t
 rw [Zo1] at hb
 rw [ZvQ, Zax]
 have := ZsO v v.fKids 0 0 ih (by omega) (Nat.zero_le _)
 rw [Nat.max_eq_right (Nat.zero_le _)] at this
 exact this
theorem Zrj (t : Zj) : ∀ (xs : List Zj) (n x : Nat), (∀ k ∈ xs, k.nod ≤ BIG → Zbe k = some ((k.dep : Nat) : Int)) → Zj.nods xs ≤ BIG → n ≤ BIG → ZbC ((n : Nat) : Int) t x xs = some ((max n (Zj.deps xs) + 1 : Nat) : Int)
 | [], n, x, _, _, hn => by
  have hB : BIG = 1000000000000 := rfl
  rw [ZbC, Zj.deps, w64 (by omega) (by omega)]
  rw [Nat.max_eq_left (Nat.zero_le _)]; rfl
 | k :: xs, n, x, h, hb, hn => by
  rw [Zgy] at hb
  rw [ZnF]
  have hd := Zt1 k
  have hB : BIG = 1000000000000 := rfl
  rw [ZbC, h k (by simp) (by omega), Zm, Zgu]
  rw [Zrj t xs (max n k.dep) (x + 1) (fun j hj => h j (by simp [hj])) (by omega) (by omega), Nat.max_assoc]
theorem Zy1 (t : Zj) : t.nod ≤ BIG → Zbe t = some ((t.dep : Nat) : Int) := by
 refine Zj.ind (M := fun t => t.nod ≤ BIG → Zbe t = some ((t.dep : Nat) : Int)) (fun v ih hb => ?_) t
 rw [Zlj] at hb
 rw [Ztd, Zbe]
 have := Zrj v v.fArgs 0 0 ih (by omega) (Nat.zero_le _)
 rw [Nat.max_eq_right (Nat.zero_le _)] at this
 exact this
theorem ZqY (t : Zj) : ∀ (xs : List Zj) (n x : Nat), (∀ k ∈ xs, k.nod ≤ BIG → Zah k = some ((k.dep : Nat) : Int)) → Zj.nods xs ≤ BIG → n ≤ BIG → ZaB ((n : Nat) : Int) x t xs = some ((max n (Zj.deps xs) + 1 : Nat) : Int)
 | [], n, x, _, _, hn => by
  have hB : BIG = 1000000000000 := rfl
  rw [ZaB, Zj.deps, w64 (by omega) (by omega)]
  rw [Nat.max_eq_left (Nat.zero_le _)]; rfl
 | k :: xs, n, x, h, hb, hn => by
  rw [Zgy] at hb
  rw [ZnF]
  have hd := Zt1 k
  have hB : BIG = 1000000000000 := rfl
  rw [ZaB, h k (by simp) (by omega), Zm, Zgu]
  rw [ZqY t xs (max n k.dep) (x + 1) (fun j hj => h j (by simp [hj])) (by omega) (by omega), Nat.max_assoc]
theorem Zyu (t : Zj) : t.nod ≤ BIG → Zah t = some ((t.dep : Nat) : Int) := by
 refine Zj.ind (M := fun t => t.nod ≤ BIG → Zah t = some ((t.dep : Nat) : Int)) (fun v ih hb => ?_) t
 rw [Zlj] at hb
 rw [Ztd, Zah]
 have := ZqY v v.fArgs 0 0 ih (by omega) (Nat.zero_le _)
 rw [Nat.max_eq_right (Nat.zero_le _)] at this
 exact this

mutual
def Za.vol : Za → Nat | .mk _ s b ks => 1 + s.size + b.nod + Za.vols ks
def Za.vols : List Za → Nat
 | [] => 0
 | k :: ks => Za.vol k + Za.vols ks
end
mutual
def Za.gks : Za → Nat | .mk _ _ b ks => max b.nod (Za.gkss ks)
def Za.gkss : List Za → Nat
 | [] => 0
 | k :: ks => max (Za.gks k) (Za.gkss ks)
end
mutual
def Za.gkd : Za → Nat | .mk _ _ b ks => max b.dep (Za.gkds ks)
def Za.gkds : List Za → Nat
 | [] => 0
 | k :: ks => max (Za.gkd k) (Za.gkds ks)
end
mutual
def Za.nmx : Za → Nat | .mk _ s _ ks => max s.size (Za.nmxs ks)
def Za.nmxs : List Za → Nat
 | [] => 0
 | k :: ks => max (Za.nmx k) (Za.nmxs ks)
end
theorem ZsT (t : Za) : t.nmx = max t.fName.size (Za.nmxs t.fKids) := by cases t; rw [Za.nmx]; rfl
theorem ZiK (k : Za) (ks : List Za) : Za.nmxs (k :: ks) = max k.nmx (Za.nmxs ks) := by rw [Za.nmxs]
theorem ZtK {k : Za} : ∀ {l : List Za}, k ∈ l → k.nmx ≤ Za.nmxs l
 | j :: l, h => by
  rw [ZiK]
  rcases List.mem_cons.1 h with rfl | h
  ·omega
  ·have := ZtK h; omega
theorem ZoU (t : Za) : t.vol = 1 + t.fName.size + t.fBound.nod + Za.vols t.fKids := by cases t; rw [Za.vol]; rfl
theorem ZzE (t : Za) : t.gks = max t.fBound.nod (Za.gkss t.fKids) := by cases t; rw [Za.gks]; rfl
theorem ZzY (t : Za) : t.gkd = max t.fBound.dep (Za.gkds t.fKids) := by cases t; rw [Za.gkd]; rfl
theorem ZiS (k : Za) (ks : List Za) : Za.vols (k :: ks) = k.vol + Za.vols ks := by rw [Za.vols]
theorem ZmN (k : Za) (ks : List Za) : Za.gkss (k :: ks) = max k.gks (Za.gkss ks) := by rw [Za.gkss]
theorem ZmM (k : Za) (ks : List Za) : Za.gkds (k :: ks) = max k.gkd (Za.gkds ks) := by rw [Za.gkds]
theorem Zqh {k : Za} : ∀ {l : List Za}, k ∈ l → k.vol ≤ Za.vols l
 | j :: l, h => by
  rw [ZiS]
  rcases List.mem_cons.1 h with rfl | h
  ·omega
  ·have := Zqh h; omega
theorem Zts (t : Za) : t.nod ≤ t.vol := by
 refine Za.ind (M := fun t => t.nod ≤ t.vol) (fun v ih => ?_) t
 have key : ∀ l : List Za, (∀ k ∈ l, k.nod ≤ k.vol) → Za.nods l ≤ Za.vols l := fun l => by
  induction l with
  | nil => intro _; rw [Za.nods, Za.vols]; exact Nat.le_refl _
  | cons k ks ihl => intro h; rw [ZgK, ZiS]; have h1 := h k (by simp); have h2 := ihl fun j hj => h j (by simp [hj]); omega
 have := key v.fKids ih
 rw [Zo1, ZoU]; omega
theorem ZtB (t : Za) : t.nmx ≤ t.vol := by
 refine Za.ind (M := fun t => t.nmx ≤ t.vol) (fun v ih => ?_) t
 have key : ∀ l : List Za, (∀ k ∈ l, k.nmx ≤ k.vol) → Za.nmxs l ≤ Za.vols l := fun l => by
  induction l with
  | nil => intro _; rw [Za.nmxs, Za.vols]; exact Nat.le_refl _
  | cons k ks ihl => intro h; rw [ZiK, ZiS]; have h1 := h k (by simp); have h2 := ihl fun j hj => h j (by simp [hj]); omega
 have := key v.fKids ih
 rw [ZsT, ZoU]; omega
theorem ZwZ (t : Za) : ∀ (xs : List Za) (n x : Nat), (∀ k ∈ xs, ZE k = some ((k.gks : Nat) : Int)) → ZR ((n : Nat) : Int) t x xs = some ((max n (Za.gkss xs) : Nat) : Int)
 | [], n, x, _ => by rw [ZR, Za.gkss, Nat.max_eq_left (Nat.zero_le _)]
 | k :: xs, n, x, h => by
  rw [ZR, h k (by simp), Zm, Zgu, ZwZ t xs _ _ (fun j hj => h j (by simp [hj])), ZmN, Nat.max_assoc]
theorem ZEd (t : Za) : t.vol ≤ BIG → ZE t = some ((t.gks : Nat) : Int) := by
 refine Za.ind (M := fun t => t.vol ≤ BIG → ZE t = some ((t.gks : Nat) : Int)) (fun v ih hb => ?_) t
 rw [ZoU] at hb
 rw [ZE, ZAg _ (by omega), Zm, ZwZ v v.fKids _ 0 (fun k hk => ih k hk (by have := Zqh hk; omega)), ZzE]
theorem Zwu (t : Za) : ∀ (xs : List Za) (n x : Nat), (∀ k ∈ xs, ZB k = some ((k.gkd : Nat) : Int)) → ZO ((n : Nat) : Int) t x xs = some ((max n (Za.gkds xs) : Nat) : Int)
 | [], n, x, _ => by rw [ZO, Za.gkds, Nat.max_eq_left (Nat.zero_le _)]
 | k :: xs, n, x, h => by
  rw [ZO, h k (by simp), Zm, Zgu, Zwu t xs _ _ (fun j hj => h j (by simp [hj])), ZmM, Nat.max_assoc]
theorem ZEu (t : Za) : t.vol ≤ BIG → ZB t = some ((t.gkd : Nat) : Int) := by
 refine Za.ind (M := fun t => t.vol ≤ BIG → ZB t = some ((t.gkd : Nat) : Int)) (fun v ih hb => ?_) t
 rw [ZoU] at hb
 rw [ZB, Zy1 _ (by omega), Zm, Zwu v v.fKids _ 0 (fun k hk => ih k hk (by have := Zqh hk; omega)), ZzY]
theorem Zso (t : Za) : ∀ (xs : List Za) (a b x : Nat), (∀ k ∈ xs, ZaN k = some (((k.gks : Nat) : Int), ((k.gkd : Nat) : Int))) → Zbq ((a : Nat) : Int) ((b : Nat) : Int) x t xs = some (((max a (Za.gkss xs) : Nat) : Int), ((max b (Za.gkds xs) : Nat) : Int))
 | [], a, b, x, _ => by rw [Zbq, Za.gkss, Za.gkds, Nat.max_eq_left (Nat.zero_le _), Nat.max_eq_left (Nat.zero_le _)]
 | k :: xs, a, b, x, h => by
  rw [Zbq, h k (by simp), Zm, Zgu, Zgu, Zso t xs _ _ _ (fun j hj => h j (by simp [hj])), ZmN, ZmM, Nat.max_assoc, Nat.max_assoc]
theorem ZAH (t : Za) : t.vol ≤ BIG → ZaN t = some (((t.gks : Nat) : Int), ((t.gkd : Nat) : Int)) := by
 refine Za.ind (M := fun t => t.vol ≤ BIG → ZaN t = some (((t.gks : Nat) : Int), ((t.gkd : Nat) : Int))) (fun v ih hb => ?_) t
 rw [ZoU] at hb
 rw [ZaN, ZAT _ (by omega), Zm, Zyu _ (by omega), Zm, Zso v v.fKids _ _ 0 (fun k hk => ih k hk (by have := Zqh hk; omega)), ZzE, ZzY]

def ZkW (t : Za) : Bool :=
 if t.fOp = 1 then ZnY t.fName && decide (t.fBound.fArgs.length = 0) && decide (t.fKids.length = 0)
 else if t.fOp = 2 then ZxM t.fName && decide (t.fBound.fArgs.length = 0) && decide (t.fKids.length = 0)
 else if t.fOp = 3 then decide (t.fName.size = 0) && decide (t.fBound.fArgs.length = 0) && decide (t.fKids.length = 2)
 else if t.fOp = 4 then ZnY t.fName && decide (t.fKids.length = 1) else false
mutual
def Za.fms : Za → Bool | .mk o s b ks => Za.fmss ks && ZkW (.mk o s b ks)
def Za.fmss : List Za → Bool
 | [] => true
 | k :: ks => Za.fms k && Za.fmss ks
end
theorem Zu3 (t : Za) : t.fms = (Za.fmss t.fKids && ZkW t) := by cases t; rw [Za.fms]; rfl
theorem ZiR (k : Za) (ks : List Za) : Za.fmss (k :: ks) = (k.fms && Za.fmss ks) := by rw [Za.fmss]
theorem ZlV (a b : Nat) : (((a : Nat) : Int) == ((b : Nat) : Int)) = decide (a = b) := by rw [ZdC, Bool.eq_iff_iff, beq_iff_eq, decide_eq_true_iff]
theorem ZCt (a b : Int) : ((a == b) = true) = (a = b) := by rw [beq_iff_eq]
theorem Zt6 (t : Za) (ht : t.fName.size ≤ 1000000000) : ∀ (xs : List Za) (x : Nat), (∀ k ∈ xs, ZaF k = some k.fms) → Za9 x t xs = some (Za.fmss xs && ZkW t)
 | [], x, _ => by
  have e0 := ZlV t.fBound.fArgs.length 0
  have e1 := ZlV t.fKids.length 0
  have e2 := ZlV t.fKids.length 2
  have e3 := ZlV t.fKids.length 1
  simp only [Int.natCast_zero, Int.cast_ofNat_Int] at e0 e1 e2 e3
  rw [Za9, Za.fmss, Bool.true_and]
  unfold ZkW
  simp only [ZCt]
  rw [ZA9 _ ht, ZEe _ ht, ZmK]
  split
  ·rw [Zm, e0, e1]
  ·split
   ·rw [Zm, e0, e1]
   ·split
    ·rw [e0, e2]
    ·split
     ·rw [Zm, e3]
     ·rfl
 | k :: xs, x, h => by
  rw [Za9, h k (by simp), Zm, ZiR]
  cases k.fms with
  | false => rfl
  | true => rw [Bool.not_true, ifF, Zt6 t ht xs _ (fun j hj => h j (by simp [hj])), Bool.true_and]
theorem ZCW (t : Za) : t.nmx ≤ 1000000000 → ZaF t = some t.fms := by
 refine Za.ind (M := fun t => t.nmx ≤ 1000000000 → ZaF t = some t.fms) (fun v ih hb => ?_) t
 rw [ZsT] at hb
 rw [ZaF, Zt6 v (by omega) v.fKids 0 (fun k hk => ih k hk (by have := ZtK hk; omega)), Zu3]

theorem Zwj (s : List Za) : ∀ (xs : List Za) (x : Nat), (∀ k ∈ xs, ZbN k = some k.fms) → ∃ r, ZD s x xs = some r ∧ decide (r ≥ 0) = !Za.fmss xs
 | [], x, _ => ⟨-1, by rw [ZD], by rw [Za.fmss]; rfl⟩
 | k :: xs, x, h => by
  obtain ⟨r, h1, h2⟩ := Zwj s xs (x + 1) (fun j hj => h j (by simp [hj]))
  have hk : ZdL k = some (!k.fms) := by rw [ZdL, h k (by simp), Zm]
  rw [ZD, hk, Zm, ZiR]
  cases k.fms with
  | false => exact ⟨_, by rw [Bool.not_false, ifT], decide_eq_true (by omega)⟩
  | true => exact ⟨r, by rw [Bool.not_true, ifF, h1], by rw [h2, Bool.true_and]⟩
theorem ZBU (s : List Za) (h : ∀ k ∈ s, ZbN k = some k.fms) : ZQ s = some (!Za.fmss s) := by
 obtain ⟨r, h1, h2⟩ := Zwj s s 0 h
 rw [ZQ, Zaf, h1, Zm, h2]
theorem ZAS (op : Int) : ∃ b, Zeg (ZgY (ZgY ([] : List (Int × Int)) 3 2) 4 1) 0 op = some ((if op = 3 then 2 else if op = 4 then 1 else 0), b) := by
 by_cases h3 : op = 3
 ·subst h3; exact ⟨_, rfl⟩
 ·by_cases h4 : op = 4
  ·subst h4; exact ⟨_, rfl⟩
  ·have e3 : (op == 3) = false := by rw [beq_eq_false_iff_ne]; exact h3
   have e4 : (op == 4) = false := by rw [beq_eq_false_iff_ne]; exact h4
   rw [if_neg h3, if_neg h4]
   refine ⟨false, ?_⟩
   have hm : ZgY (ZgY ([] : List (Int × Int)) 3 2) 4 1 = [(3, 2), (4, 1)] := rfl
   rw [hm]
   unfold Zeg
   simp only [Zfr, e3, e4, Bool.false_eq_true, if_false]

theorem ZBN (t : Za) : t.nmx ≤ 1000000000 → ZbN t = some t.fms := by
 refine Za.ind (M := fun t => t.nmx ≤ 1000000000 → ZbN t = some t.fms) (fun v ih hb => ?_) t
 rw [ZsT] at hb
 have hk : ∀ k ∈ v.fKids, ZbN k = some k.fms := fun k hk => ih k hk (by have := ZtK hk; omega)
 have hs : v.fName.size ≤ 1000000000 := by omega
 obtain ⟨b, hlook⟩ := ZAS v.fOp
 have hc := ZBU v.fKids hk
 have e0 : decide (((v.fBound.fArgs.length : Nat) : Int) > 0) = !decide (v.fBound.fArgs.length = 0) := by
  by_cases h : v.fBound.fArgs.length = 0
  ·rw [decide_eq_true h]; exact decide_eq_false (by omega)
  ·rw [decide_eq_false h]; exact decide_eq_true (by omega)
 have ek : ∀ n : Nat, (((v.fKids.length : Nat) : Int) != ((n : Nat) : Int)) = !decide (v.fKids.length = n) := fun n => by rw [bne, ZlV]
 have ek0 := ek 0
 have ek1 := ek 1
 have ek2 := ek 2
 simp only [Int.natCast_zero, Int.cast_ofNat_Int] at ek0 ek1 ek2
 rw [ZbN, hlook, Zm, hc, ZmK, e0, Zu3]
 unfold Zdo ZkW
 rw [Zz9 _ hs, ZDO _ hs, ZDX _ hs]
 by_cases h1 : v.fOp = 1
 ·rw [h1]; simp only [Zm]
  simp only [ek0, show ((1 : Int) = 3) = False from by decide, show ((1 : Int) = 4) = False from by decide, if_false, if_true]
  cases decide (v.fBound.fArgs.length = 0) <;> cases decide (v.fKids.length = 0) <;> cases Za.fmss v.fKids <;> cases ZnY v.fName <;> rfl
 ·by_cases h2 : v.fOp = 2
  ·rw [h2]; simp only [Zm]
   simp only [ek0, show ((2 : Int) = 3) = False from by decide, show ((2 : Int) = 4) = False from by decide, show ((2 : Int) = 1) = False from by decide, if_false, if_true]
   unfold ZxM
   cases decide (v.fBound.fArgs.length = 0) <;> cases decide (v.fKids.length = 0) <;> cases Za.fmss v.fKids <;> cases (ZuV v.fName.data.toList || ZrU v.fName.data.toList) <;> cases Zu1 v.fName <;> rfl
  ·by_cases h3 : v.fOp = 3
   ·rw [h3]; simp only [Zm]
    simp only [ek2, show ((3 : Int) = 4) = False from by decide, show ((3 : Int) = 1) = False from by decide, show ((3 : Int) = 2) = False from by decide, if_false, if_true]
    cases decide (v.fBound.fArgs.length = 0) <;> cases decide (v.fKids.length = 2) <;> cases Za.fmss v.fKids <;> cases decide (v.fName.size = 0) <;> rfl
   ·by_cases h4 : v.fOp = 4
    ·rw [h4]; simp only [Zm]
     simp only [ek1, show ((4 : Int) = 3) = False from by decide, show ((4 : Int) = 1) = False from by decide, show ((4 : Int) = 2) = False from by decide, if_false, if_true]
     cases decide (v.fBound.fArgs.length = 0) <;> cases decide (v.fKids.length = 1) <;> cases Za.fmss v.fKids <;> cases ZnY v.fName <;> rfl
    ·have g1 : (v.fOp == 1) = false := by rw [beq_eq_false_iff_ne]; exact h1
     have g2 : (v.fOp == 2) = false := by rw [beq_eq_false_iff_ne]; exact h2
     have g3 : (v.fOp == 3) = false := by rw [beq_eq_false_iff_ne]; exact h3
     have g4 : (v.fOp == 4) = false := by rw [beq_eq_false_iff_ne]; exact h4
     have g5 : (v.fOp != 4) = true := by rw [bne, g4]; rfl
     simp only [Zm, g1, g2, g3, g4, g5, if_neg h1, if_neg h2, if_neg h3, if_neg h4, ek0]
     cases decide (v.fBound.fArgs.length = 0) <;> cases decide (v.fKids.length = 0) <;> cases Za.fmss v.fKids <;> rfl

def ZpK (t : Za) : Int :=
 if t.fms = true then (if 20000 < t.nod ∨ 20000 < t.gks then 3 else if 100 < t.dep ∨ 100 < t.gkd then 4 else 0) else 1
theorem Zzy (a b : Prop) [Decidable a] [Decidable b] : (decide a || decide b) = decide (a ∨ b) := by
 rw [Bool.eq_iff_iff, Bool.or_eq_true, decide_eq_true_iff, decide_eq_true_iff, decide_eq_true_iff]
theorem Zmi (a n : Nat) : decide (((a : Nat) : Int) > ((n : Nat) : Int)) = decide (n < a) := decide_eq_decide.2 (by omega)
theorem ZuD (t : Za) (hm : t.nmx ≤ 1000000000) (h : t.vol ≤ 1000000000000) : Zbt t = some (ZpK t) := by
 have hB : BIG = 1000000000000 := rfl
 have hn := Zts t
 have g1 := Zmi t.nod 20000
 have g2 := Zmi t.gks 20000
 have g3 := Zmi t.dep 100
 have g4 := Zmi t.gkd 100
 simp only [Int.cast_ofNat_Int] at g1 g2 g3 g4
 unfold Zbt ZpK
 rw [ZBN t hm, Zm]
 cases t.fms with
 | false => rfl
 | true =>
  rw [Bool.not_true, ifF, ifT, ZzX t (by omega), Zm, ZEd t (by omega), Zm, g1, g2, ZwQ t (by omega), Zm, ZEu t (by omega), Zm, g3, g4]
  by_cases a1 : 20000 < t.nod
  ·rw [decide_eq_true a1, orT, ifT, if_pos (.inl a1)]
  ·rw [decide_eq_false a1, orF, Zm]
   by_cases a2 : 20000 < t.gks
   ·rw [decide_eq_true a2, ifT, if_pos (.inr a2)]
   ·rw [decide_eq_false a2, ifF, if_neg (show ¬ (20000 < t.nod ∨ 20000 < t.gks) from fun h => h.elim a1 a2)]
    by_cases a3 : 100 < t.dep
    ·rw [decide_eq_true a3, orT, ifT, if_pos (.inl a3)]
    ·rw [decide_eq_false a3, orF, Zm]
     by_cases a4 : 100 < t.gkd
     ·rw [decide_eq_true a4, ifT, if_pos (.inr a4)]
     ·rw [decide_eq_false a4, ifF, if_neg (show ¬ (100 < t.dep ∨ 100 < t.gkd) from fun h => h.elim a3 a4)]
theorem ZtO (t : Za) (hm : t.nmx ≤ 1000000000) (h : t.vol ≤ 1000000000000) : ZaG t = some (ZpK t) := by
 have hB : BIG = 1000000000000 := rfl
 have hn := Zts t
 have g1 := Zmi t.nod 20000
 have g2 := Zmi t.gks 20000
 have g3 := Zmi t.dep 100
 have g4 := Zmi t.gkd 100
 simp only [Int.cast_ofNat_Int] at g1 g2 g3 g4
 unfold ZaG ZpK
 rw [ZCW t hm, Zm]
 cases t.fms with
 | false => rfl
 | true =>
  rw [Bool.not_true, ifF, ifT, ZAH t (by omega), Zm, ZvI t (by omega), Zm, g1, g2, ZtA t (by omega), Zm, g3, g4, Zzy, Zzy]
  by_cases a1 : 20000 < t.nod ∨ 20000 < t.gks
  ·rw [decide_eq_true a1, ifT, if_pos a1]
  ·rw [decide_eq_false a1, ifF, if_neg a1]
   by_cases a2 : 100 < t.dep ∨ 100 < t.gkd
   ·rw [decide_eq_true a2, ifT, if_pos a2]
   ·rw [decide_eq_false a2, ifF, if_neg a2]
theorem ZAy (t : Za) (h : t.vol ≤ 1000000000) : Zbt t = some (ZpK t) := ZuD t (Nat.le_trans (ZtB t) h) (by omega)
theorem ZAE (t : Za) (h : t.vol ≤ 1000000000) : ZaG t = some (ZpK t) := ZtO t (Nat.le_trans (ZtB t) h) (by omega)

mutual
def Za.qnt : Za → Bool | .mk o _ _ ks => (o == 4) || Za.qnts ks
def Za.qnts : List Za → Bool
 | [] => false
 | k :: ks => Za.qnt k || Za.qnts ks
end
theorem ZvP (t : Za) : t.qnt = ((t.fOp == 4) || Za.qnts t.fKids) := by cases t; rw [Za.qnt]; rfl
theorem ZiO (k : Za) (ks : List Za) : Za.qnts (k :: ks) = (k.qnt || Za.qnts ks) := by rw [Za.qnts]
theorem ZwD (s : List Za) : ∀ (xs : List Za) (x : Nat), (∀ k ∈ xs, ZaP k = some k.qnt) → ∃ r, Zz s x xs = some r ∧ decide (r ≥ 0) = Za.qnts xs
 | [], x, _ => ⟨-1, by rw [Zz], by rw [Za.qnts]; rfl⟩
 | k :: xs, x, h => by
  obtain ⟨r, h1, h2⟩ := ZwD s xs (x + 1) (fun j hj => h j (by simp [hj]))
  rw [Zz, h k (by simp), Zm, ZiO]
  cases k.qnt with
  | true => exact ⟨_, by rw [ifT], decide_eq_true (by omega)⟩
  | false => exact ⟨r, by rw [ifF, h1], by rw [h2, Bool.false_or]⟩
theorem ZEq (t : Za) : ZaP t = some t.qnt := by
 refine Za.ind (M := fun t => ZaP t = some t.qnt) (fun v ih => ?_) t
 obtain ⟨r, h1, h2⟩ := ZwD v.fKids v.fKids 0 ih
 rw [ZaP, ZvP]
 cases v.fOp == 4 with
 | true => rfl
 | false => rw [ZW, Z7, h1, Zm, h2, Bool.false_or]; rfl
theorem Zxb (t : Za) : ∀ (xs : List Za) (x : Nat), (∀ k ∈ xs, Z9 k = some k.qnt) → Zar x t xs = some (Za.qnts xs || (t.fOp == 4))
 | [], x, _ => by rw [Zar, Za.qnts, Bool.false_or]
 | k :: xs, x, h => by
  rw [Zar, h k (by simp), Zm, ZiO]
  cases k.qnt with
  | true => rfl
  | false => rw [ifF, Zxb t xs _ (fun j hj => h j (by simp [hj])), Bool.false_or]
theorem ZDS (t : Za) : Z9 t = some t.qnt := by
 refine Za.ind (M := fun t => Z9 t = some t.qnt) (fun v ih => ?_) t
 rw [Z9, Zxb v v.fKids 0 ih, ZvP, Bool.or_comm]
def Zkc (t : Za) : Bool := (ZpK t == 0) && !t.qnt
theorem Zsc (t : Za) (h : t.vol ≤ 1000000000) : Zcz t = some (Zkc t) := by
 unfold Zcz Zkc
 rw [ZAy t h, Zm, ZEq]
 cases ZpK t == 0 <;> rfl
theorem Zxf (t : Za) (h : t.vol ≤ 1000000000) : Zbw t = some (Zkc t) := by
 unfold Zbw Zkc
 rw [ZAE t h, Zm, ZDS]
 cases ZpK t == 0 <;> rfl
inductive ST where
 | v (s : ByteArray)
 | k (s : ByteArray)
 | a (f x : ST)
def ST.ty : ST → Za
 | .v s => Za.mk 1 s (Zj.mk []) []
 | .k s => Za.mk 2 s (Zj.mk []) []
 | .a f x => Za.mk 3 (ByteArray.mk #[]) (Zj.mk []) [f.ty, x.ty]
def ST.nod : ST → Nat
 | .v _ => 1
 | .k _ => 1
 | .a f x => 1 + f.nod + x.nod
def ST.dep : ST → Nat
 | .v _ => 1
 | .k _ => 1
 | .a f x => max f.dep x.dep + 1
def ST.nms : ST → Bool
 | .v s => ZnY s && decide (s.size ≤ 1048576)
 | .k s => ZxM s && decide (s.size ≤ 1048576)
 | .a f x => f.nms && x.nms
theorem ZCU (k : Zj) (h : k.fArgs.length = 0) : k = Zj.mk [] := by
 cases k with | mk l => cases l with | nil => rfl | cons _ _ => cases h
theorem ZG1 (s : ByteArray) (h : s.size = 0) : s = ByteArray.mk #[] := by
 apply ZfQ
 have : s.data.toList.length = 0 := by rw [sz]; exact h
 rw [List.length_eq_zero_iff.1 this]
theorem ZEr (t : Za) : t.nmx ≤ 1048576 → t.fms = true → t.qnt = false → ∃ s : ST, s.ty = t ∧ s.nms = true := by
 refine Za.ind (M := fun t => t.nmx ≤ 1048576 → t.fms = true → t.qnt = false → ∃ s : ST, s.ty = t ∧ s.nms = true) (fun v ih hb hf hq => ?_) t
 rw [ZsT] at hb
 rw [Zu3, Bool.and_eq_true] at hf
 rw [ZvP, Bool.or_eq_false_iff] at hq
 obtain ⟨h1, h2⟩ := hf
 obtain ⟨op, s, b, ks⟩ := v
 have hs : s.size ≤ 1048576 := by have : (Za.mk op s b ks).fName = s := rfl; rw [this] at hb; omega
 have hk : Za.nmxs ks ≤ 1048576 := by have : (Za.mk op s b ks).fKids = ks := rfl; rw [this] at hb; omega
 replace h1 : Za.fmss ks = true := h1
 replace hq : (op == 4) = false ∧ Za.qnts ks = false := hq
 unfold ZkW at h2
 have e1 : (Za.mk op s b ks).fOp = op := rfl
 have e2 : (Za.mk op s b ks).fName = s := rfl
 have e3 : (Za.mk op s b ks).fBound = b := rfl
 have e4 : (Za.mk op s b ks).fKids = ks := rfl
 rw [e1, e2, e3, e4] at h2
 by_cases o1 : op = 1
 ·rw [if_pos o1] at h2
  simp only [Bool.and_eq_true, decide_eq_true_eq] at h2
  obtain ⟨⟨h3, h4⟩, h5⟩ := h2
  refine ⟨.v s, ?_, by simp [ST.nms, h3, hs]⟩
  rw [ST.ty, ZCU b h4, List.length_eq_zero_iff.1 h5, o1]
 ·rw [if_neg o1] at h2
  by_cases o2 : op = 2
  ·rw [if_pos o2] at h2
   simp only [Bool.and_eq_true, decide_eq_true_eq] at h2
   obtain ⟨⟨h3, h4⟩, h5⟩ := h2
   refine ⟨.k s, ?_, by simp [ST.nms, h3, hs]⟩
   rw [ST.ty, ZCU b h4, List.length_eq_zero_iff.1 h5, o2]
  ·rw [if_neg o2] at h2
   by_cases o3 : op = 3
   ·rw [if_pos o3] at h2
    simp only [Bool.and_eq_true, decide_eq_true_eq] at h2
    obtain ⟨⟨h3, h4⟩, h5⟩ := h2
    match ks, h5, h1, hk, ih, hq.2 with
    | [f, x], _, h1, hk, ih, hq2 =>
     rw [ZiR, ZiR, Bool.and_eq_true, Bool.and_eq_true] at h1
     rw [ZiK, ZiK] at hk
     rw [ZiO, ZiO, Bool.or_eq_false_iff, Bool.or_eq_false_iff] at hq2
     obtain ⟨f', hf1, hf2⟩ := ih f (by simp [Za.fKids]) (by omega) h1.1 hq2.1
     obtain ⟨x', hx1, hx2⟩ := ih x (by simp [Za.fKids]) (by omega) h1.2.1 hq2.2.1
     refine ⟨.a f' x', ?_, by simp [ST.nms, hf2, hx2]⟩
     rw [ST.ty, hf1, hx1, ZCU b h4, ZG1 s h3, o3]
   ·rw [if_neg o3] at h2
    have o4 : ¬ op = 4 := fun h => by rw [h] at hq; simp at hq
    rw [if_neg o4] at h2
    cases h2
theorem ZvL : ∀ s : ST, s.nms = true → s.ty.fms = true
 | .v s, h => by
  simp only [ST.nms, Bool.and_eq_true] at h
  rw [ST.ty, Za.fms, Za.fmss, ZkW, if_pos (show (Za.mk 1 s (Zj.mk []) []).fOp = 1 from rfl)]
  show (true && (ZnY s && true && true)) = true
  rw [h.1]; rfl
 | .k s, h => by
  simp only [ST.nms, Bool.and_eq_true] at h
  rw [ST.ty, Za.fms, Za.fmss, ZkW, if_neg (show ¬ (Za.mk 2 s (Zj.mk []) []).fOp = 1 from fun h => absurd (show (2 : Int) = 1 from h) (by decide)), if_pos (show (Za.mk 2 s (Zj.mk []) []).fOp = 2 from rfl)]
  show (true && (ZxM s && true && true)) = true
  rw [h.1]; rfl
 | .a f x, h => by
  simp only [ST.nms, Bool.and_eq_true] at h
  rw [ST.ty, Za.fms, ZiR, ZiR, ZvL f h.1, ZvL x h.2, Za.fmss, ZkW]
  rfl
theorem Zlc : ∀ s : ST, s.ty.nod = s.nod
 | .v s => by rw [ST.ty, Za.nod, Za.nods, ST.nod]
 | .k s => by rw [ST.ty, Za.nod, Za.nods, ST.nod]
 | .a f x => by rw [ST.ty, Za.nod, ZgK, ZgK, Za.nods, ST.nod, Zlc f, Zlc x]; omega
theorem ZqB : ∀ s : ST, s.ty.dep = s.dep
 | .v s => by rw [ST.ty, Za.dep, Za.deps, ST.dep]
 | .k s => by rw [ST.ty, Za.dep, Za.deps, ST.dep]
 | .a f x => by rw [ST.ty, Za.dep, Zkq, Zkq, Za.deps, ST.dep, ZqB f, ZqB x]; omega
theorem Zvr : ∀ s : ST, s.ty.gks = 1
 | .v s => by rw [ST.ty, Za.gks, Za.gkss, Zj.nod, Zj.nods]; rfl
 | .k s => by rw [ST.ty, Za.gks, Za.gkss, Zj.nod, Zj.nods]; rfl
 | .a f x => by rw [ST.ty, Za.gks, ZmN, ZmN, Za.gkss, Zvr f, Zvr x, Zj.nod, Zj.nods]; rfl
theorem ZuZ : ∀ s : ST, s.ty.gkd = 1
 | .v s => by rw [ST.ty, Za.gkd, Za.gkds, Zj.dep, Zj.deps]; rfl
 | .k s => by rw [ST.ty, Za.gkd, Za.gkds, Zj.dep, Zj.deps]; rfl
 | .a f x => by rw [ST.ty, Za.gkd, ZmM, ZmM, Za.gkds, ZuZ f, ZuZ x, Zj.dep, Zj.deps]; rfl
theorem Zvd : ∀ s : ST, s.ty.qnt = false
 | .v s => by rw [ST.ty, Za.qnt, Za.qnts]; rfl
 | .k s => by rw [ST.ty, Za.qnt, Za.qnts]; rfl
 | .a f x => by rw [ST.ty, Za.qnt, ZiO, ZiO, Za.qnts, Zvd f, Zvd x]; rfl
theorem ZtN : ∀ s : ST, s.nms = true → s.ty.nmx ≤ 1048576
 | .v s, h => by
  simp only [ST.nms, Bool.and_eq_true, decide_eq_true_eq] at h
  rw [ST.ty, Za.nmx, Za.nmxs]; omega
 | .k s, h => by
  simp only [ST.nms, Bool.and_eq_true, decide_eq_true_eq] at h
  rw [ST.ty, Za.nmx, Za.nmxs]; omega
 | .a f x, h => by
  simp only [ST.nms, Bool.and_eq_true] at h
  have h1 := ZtN f h.1
  have h2 := ZtN x h.2
  have h3 : (ByteArray.mk #[]).size = 0 := rfl
  rw [ST.ty, Za.nmx, ZiK, ZiK, Za.nmxs]; omega
theorem Zri : ∀ s : ST, s.nms = true → s.ty.vol ≤ 1048578 * s.nod
 | .v s, h => by
  simp only [ST.nms, Bool.and_eq_true, decide_eq_true_eq] at h
  rw [ST.ty, Za.vol, Za.vols, Zj.nod, Zj.nods, ST.nod]; omega
 | .k s, h => by
  simp only [ST.nms, Bool.and_eq_true, decide_eq_true_eq] at h
  rw [ST.ty, Za.vol, Za.vols, Zj.nod, Zj.nods, ST.nod]; omega
 | .a f x, h => by
  simp only [ST.nms, Bool.and_eq_true] at h
  have h1 := Zri f h.1
  have h2 := Zri x h.2
  have h3 : (ByteArray.mk #[]).size = 0 := rfl
  rw [ST.ty, Za.vol, ZiS, ZiS, Za.vols, Zj.nod, Zj.nods, ST.nod, h3]; omega
def ST.big (s : ST) : Bool := decide (20000 < s.nod) || decide (100 < s.dep)
theorem Ztz (s : ST) (h : s.nms = true) : ZpK s.ty = if 20000 < s.nod then 3 else if 100 < s.dep then 4 else 0 := by
 unfold ZpK
 rw [if_pos (ZvL s h), Zlc, ZqB, Zvr, ZuZ]
 by_cases h1 : 20000 < s.nod
 ·rw [if_pos (.inl h1), if_pos h1]
 ·rw [if_neg (show ¬ (20000 < s.nod ∨ 20000 < 1) by omega), if_neg h1]
  by_cases h2 : 100 < s.dep
  ·rw [if_pos (.inl h2), if_pos h2]
  ·rw [if_neg (show ¬ (100 < s.dep ∨ 100 < 1) by omega), if_neg h2]
theorem Zdv {s : ST} : s.big = false ↔ s.nod ≤ 20000 ∧ s.dep ≤ 100 := by
 unfold ST.big
 rw [Bool.or_eq_false_iff, decide_eq_false_iff_not, decide_eq_false_iff_not]; omega
def ST.good (s : ST) : Prop := s.nms = true ∧ s.big = false
theorem ZnI (s : ST) (h : s.good) : Zbt s.ty = some 0 := by
 have hb := Zdv.1 h.2
 have h1 := ZtN s h.1
 have h2 := Zri s h.1
 rw [ZuD s.ty (by omega) (by omega), Ztz s h.1, if_neg (by omega), if_neg (by omega)]
theorem ZqO (s : ST) (h : s.good) : ZaG s.ty = some 0 := by
 have hb := Zdv.1 h.2
 have h1 := ZtN s h.1
 have h2 := Zri s h.1
 rw [ZtO s.ty (by omega) (by omega), Ztz s h.1, if_neg (by omega), if_neg (by omega)]
theorem Zyg {t : Za} (hv : t.vol ≤ 1048576) (h : Zkc t = true) : ∃ s : ST, s.ty = t ∧ s.good := by
 unfold Zkc at h
 simp only [Bool.and_eq_true, beq_iff_eq, Bool.not_eq_true'] at h
 have hf : t.fms = true := by
  cases hf : t.fms with
  | true => rfl
  | false => unfold ZpK at h; rw [hf] at h; simp at h
 obtain ⟨s, rfl, hn⟩ := ZEr t (Nat.le_trans (ZtB t) hv) hf h.2
 refine ⟨s, rfl, hn, ?_⟩
 rw [Ztz s hn] at h
 rw [Zdv]
 by_cases h1 : 20000 < s.nod
 ·rw [if_pos h1] at h; simp at h
 ·by_cases h2 : 100 < s.dep
  ·rw [if_neg h1, if_pos h2] at h; simp at h
  ·omega
theorem Zj3 {s : ST} (h : s.good) : Zkc s.ty = true := by
 have hb := Zdv.1 h.2
 unfold Zkc
 rw [Ztz s h.1, if_neg (by omega), if_neg (by omega), Zvd]; rfl

theorem Zsa (a b : ByteArray) : (a == b) = decide (a = b) := by
 cases a with | mk x => cases b with | mk y =>
 have : ((⟨x⟩ : ByteArray) == ⟨y⟩) = (x == y) := rfl
 rw [this, Bool.eq_iff_iff, beq_iff_eq, decide_eq_true_iff]
 exact ⟨fun h => by rw [h], fun h => by injection h⟩
theorem ZiC (a b : ByteArray) : (a.toList == b.toList) = decide (a = b) := by
 rw [Bool.eq_iff_iff, beq_iff_eq, decide_eq_true_iff, ZaU, ZaU]
 exact ⟨fun h => ZfQ h, fun h => by rw [h]⟩
abbrev SB := List (ByteArray × ST)
def lk (x : ByteArray) : SB → Option ST
 | [] => none
 | p :: L => if p.1 = x then some p.2 else lk x L
def fi (x : ByteArray) : SB → Option Nat
 | [] => none
 | p :: L => if p.1 = x then some 0 else (fi x L).map (· + 1)
def toB (p : ByteArray × ST) : Ze := Ze.mk p.1 p.2.ty
def atL : Nat → SB → List (ByteArray × Int)
 | _, [] => []
 | k, p :: L => (p.1, ((k : Nat) : Int)) :: atL (k + 1) L
theorem Zsq (x : ByteArray) : ∀ L : SB, (fi x L = none ∧ lk x L = none) ∨ ∃ i p, fi x L = some i ∧ L[i]? = some p ∧ p.1 = x ∧ lk x L = some p.2
 | [] => .inl ⟨rfl, rfl⟩
 | q :: L => by
  by_cases h : q.1 = x
  ·exact .inr ⟨0, q, by rw [fi, if_pos h], rfl, h, by rw [lk, if_pos h]⟩
  ·rcases Zsq x L with ⟨h1, h2⟩ | ⟨i, p, h1, h2, h3, h4⟩
   ·exact .inl ⟨by rw [fi, if_neg h, h1]; rfl, by rw [lk, if_neg h, h2]⟩
   ·exact .inr ⟨i + 1, p, by rw [fi, if_neg h, h1]; rfl, h2, h3, by rw [lk, if_neg h, h4]⟩
theorem ZuC (x : ByteArray) : ∀ (L : SB) (k : Nat), Zfr x (atL k L) = (fi x L).map fun i => ((k + i : Nat) : Int)
 | [], k => rfl
 | p :: L, k => by
  rw [atL, Zfr, Zsa, fi]
  by_cases h : p.1 = x
  ·rw [decide_eq_true h.symm, ifT, if_pos h]; rfl
  ·rw [decide_eq_false (fun e => h e.symm), ifF, if_neg h, ZuC x L (k + 1)]
   cases fi x L with
   | none => rfl
   | some i => simp only [Option.map_some]; congr 2; omega
theorem ZtL (x : ByteArray) (u : ST) : ∀ (L : SB) (k n : Nat), fi x L = none → n = k + L.length → ZgY (atL k L) x ((n : Nat) : Int) = atL k (L ++ [(x, u)])
 | [], k, n, _, h => by subst h; rfl
 | p :: L, k, n, hf, h => by
  rw [fi] at hf
  by_cases hx : p.1 = x
  ·rw [if_pos hx] at hf; cases hf
  ·rw [if_neg hx] at hf
   have hf : fi x L = none := by cases hh : fi x L with | none => rfl | some i => rw [hh] at hf; cases hf
   rw [List.cons_append, atL, atL, ZgY, Zsa, decide_eq_false (fun e => hx e.symm), ifF, ZtL x u L (k + 1) n hf (by rw [h, List.length_cons]; omega)]
theorem Zre (L : SB) (x : ByteArray) : Zeg (atL 0 L) 0 x = some (match fi x L with | some i => (((i : Nat) : Int), true) | none => (0, false)) := by
 unfold Zeg
 rw [ZuC]
 cases fi x L with
 | none => rfl
 | some i => simp only [Option.map_some, Nat.zero_add]
theorem ZmQ {α : Type} (l : List α) (i : Nat) : ixI l ((i : Nat) : Int) = l[i]? := by
 unfold ixI; rw [if_pos (Int.natCast_nonneg i)]; rfl
def ST.res (L : SB) : ST → ST
 | .v s => (lk s L).getD (.v s)
 | t => t
theorem ZEy : ∀ t : ST, t.ty.fOp = match t with | .v _ => 1 | .k _ => 2 | .a _ _ => 3
 | .v _ => rfl
 | .k _ => rfl
 | .a _ _ => rfl
theorem ZA5 (L : SB) (t : ST) : ZaD ⟨L.map toB, atL 0 L⟩ t.ty = some (t.res L).ty := by
 unfold ZaD Za8
 cases t with
 | v s =>
  show (if true = true then _ else _) = _
  rw [ifT]
  show (Zeg (atL 0 L) 0 s >>= _) = _
  rw [Zre, Zm]
  rcases Zsq s L with ⟨h1, h2⟩ | ⟨i, p, h1, h2, h3, h4⟩
  ·rw [h1, ST.res, h2]; rfl
  ·rw [h1, ST.res, h4]
   show (ixI (L.map toB) ((i : Nat) : Int) >>= _) = _
   rw [ZmQ, List.getElem?_map, h2]
   rfl
 | k s => rfl
 | a f x => rfl
def ST.sub (L : SB) : ST → ST
 | .v s => (lk s L).getD (.v s)
 | .k s => .k s
 | .a f x => .a (f.sub L) (x.sub L)
def ST.occ (v : ByteArray) : ST → Bool
 | .v s => decide (s = v)
 | .k _ => false
 | .a f x => f.occ v || x.occ v
def ST.fr (l : List ByteArray) : ST → List ByteArray
 | .v s => if l.contains s = true then l else l ++ [s]
 | .k _ => l
 | .a f x => x.fr (f.fr l)
theorem ZsA (l : List ByteArray) (x : ByteArray) : l.contains x = true ↔ x ∈ l := by
 induction l with
 | nil => simp
 | cons a l ih => rw [List.contains_cons, Bool.or_eq_true, ih, Zsa, decide_eq_true_iff, List.mem_cons]
theorem ZCR (t : ST) : ∀ l, (t.fr l).length ≤ l.length + t.nod := by
 induction t with
 | v s => intro l; rw [ST.fr, ST.nod]; split <;> simp
 | k s => intro l; rw [ST.fr]; omega
 | a f x ihf ihx => intro l; rw [ST.fr, ST.nod]; have h1 := ihf l; have h2 := ihx (f.fr l); omega
theorem Zvb (x : ByteArray) (t : ST) : ∀ l, x ∈ t.fr l ↔ x ∈ l ∨ t.occ x = true := by
 induction t with
 | v s =>
  intro l
  rw [ST.fr, ST.occ, decide_eq_true_iff]
  by_cases h : l.contains s = true
  ·rw [if_pos h]
   exact ⟨.inl, fun h' => h'.elim id fun e => e ▸ (ZsA l s).1 h⟩
  ·rw [if_neg h, List.mem_append, List.mem_singleton]
   exact ⟨fun h' => h'.imp id Eq.symm, fun h' => h'.imp id Eq.symm⟩
 | k s => intro l; rw [ST.fr, ST.occ]; simp
 | a f x' ihf ihx => intro l; rw [ST.fr, ST.occ, ihx, ihf, Bool.or_eq_true, or_assoc]
theorem ZwR (s : List ByteArray) (v : ByteArray) : ∀ (xs : List ByteArray) (k : Nat), ∃ r, Zau s v k xs = some r ∧ decide (r ≥ 0) = xs.contains v
 | [], k => ⟨-1, by rw [Zau], rfl⟩
 | x :: xs, k => by
  obtain ⟨r, h1, h2⟩ := ZwR s v xs (k + 1)
  rw [Zau, ZiC, List.contains_cons, Zsa]
  by_cases h : v = x
  ·exact ⟨_, by rw [decide_eq_true h, ifT], by rw [decide_eq_true h, Bool.true_or]; exact decide_eq_true (Int.natCast_nonneg k)⟩
  ·exact ⟨r, by rw [decide_eq_false h, ifF, h1], by rw [decide_eq_false h, Bool.false_or, h2]⟩
theorem Znz (s : List ByteArray) (v : ByteArray) : Zam s v = some (s.contains v) := by
 obtain ⟨r, h1, h2⟩ := ZwR s v s 0
 rw [Zam, ZcU, h1, Zm, h2]
theorem Ztr (l b : List ByteArray) (t : Za) (k : Nat) : ZbD l b t k [] = some l := by rw [ZbD]
theorem ZCe (t : ST) : ∀ l : List ByteArray, l.length + t.nod ≤ 1000000000000 → ZcV l [] t.ty = some (t.fr l) := by
 induction t with
 | v s =>
  intro l hl
  rw [ST.ty, ZcV, ZbF, ZbF]
  show (if true = true then _ else _) = _
  rw [ifT]
  show (Zam [] s >>= _) = _
  rw [Znz, Zm]
  show ((if true = true then (Zam l s >>= fun r => some (!r)) else some false) >>= _) = _
  rw [ZAB, Znz, Zm, Zm, ST.fr]
  show (if (!l.contains s) = true then (ZV _ >>= fun _ => ZbD (l ++ [s]) [] _ 0 []) else ZbD l [] _ 0 []) = _
  rw [Ztr, Ztr]
  cases l.contains s with
  | true => rfl
  | false =>
   rw [Bool.not_false, ifT, Zdt]
   ·rfl
   ·rw [ST.nod] at hl; simp only [List.length_cons, List.length_nil]; omega
 | k s => intro l hl; rw [ST.ty, ZcV, ZbF, ZbF]; exact Ztr _ _ _ _
 | a f x ihf ihx =>
  intro l hl
  rw [ST.nod] at hl
  have h1 := ZCR f l
  rw [ST.ty, ZcV, ZbF, ZbF]
  show (if (((3 : Int) == 1)) = true then _ else if (((3 : Int) == 4)) = true then _ else ZbD l [] _ 0 [f.ty, x.ty]) = _
  rw [if_neg (by decide), if_neg (by decide), ZbD, ihf l (by omega), Zm, ZbD, ihx _ (by omega), Zm, ZbD, ST.fr]
theorem Zye (t : ST) (h : t.good) : ZeL t.ty = some (t.fr []) := by
 have hb := Zdv.1 h.2
 rw [ZeL, ZnI t h, Zm, ZCe t [] (by simp; omega)]; rfl
theorem ZBb (s : List ByteArray) (v : ByteArray) : ∀ (xs : List ByteArray) (k : Nat), Zbu s v k xs = some (xs.contains v)
 | [], k => by rw [Zbu]; rfl
 | x :: xs, k => by
  rw [Zbu, ZiC, List.contains_cons, Zsa, ZBb s v xs (k + 1)]
  by_cases h : x = v
  ·rw [decide_eq_true h, decide_eq_true h.symm]; rfl
  ·rw [decide_eq_false h, decide_eq_false (fun e => h e.symm)]; rfl
theorem ZAx (L : SB) (v : ByteArray) (t : ST) : (t.sub L).occ v = true ↔ ∃ x, t.occ x = true ∧ ((lk x L = none ∧ x = v) ∨ ∃ u, lk x L = some u ∧ u.occ v = true) := by
 induction t with
 | v s =>
  rw [ST.sub]
  simp only [ST.occ, decide_eq_true_eq]
  cases hl : lk s L with
  | none =>
   simp only [Option.getD_none, ST.occ, decide_eq_true_eq]
   exact ⟨fun h => ⟨s, rfl, .inl ⟨hl, h⟩⟩, fun ⟨x, hx, h⟩ => by subst hx; rw [hl] at h; simpa using h⟩
  | some u =>
   simp only [Option.getD_some]
   exact ⟨fun h => ⟨s, rfl, .inr ⟨u, hl, h⟩⟩, fun ⟨x, hx, h⟩ => by subst hx; rw [hl] at h; simpa using h⟩
 | k s => simp [ST.sub, ST.occ]
 | a f x ihf ihx =>
  rw [ST.sub, ST.occ, Bool.or_eq_true, ihf, ihx]
  simp only [ST.occ, Bool.or_eq_true]
  exact ⟨fun h => h.elim (fun ⟨y, h1, h2⟩ => ⟨y, .inl h1, h2⟩) (fun ⟨y, h1, h2⟩ => ⟨y, .inr h1, h2⟩), fun ⟨y, h1, h2⟩ => h1.elim (fun h1 => .inl ⟨y, h1, h2⟩) (fun h1 => .inr ⟨y, h1, h2⟩)⟩
def Zjj (L : SB) : Prop := ∀ p ∈ L, p.2.good ∧ ZnY p.1 = true ∧ p.1.size ≤ 1048576
theorem Zv5 {x : ByteArray} {u : ST} : ∀ {L : SB}, lk x L = some u → (x, u) ∈ L
 | p :: L, h => by
  rw [lk] at h
  by_cases hx : p.1 = x
  ·rw [if_pos hx] at h; injection h with h; subst hx h; exact List.mem_cons_self ..
  ·rw [if_neg hx] at h; exact List.mem_cons_of_mem _ (Zv5 h)
theorem Zw2 (L : SB) (hL : Zjj L) (v : ByteArray) (r1 : List ByteArray) : ∀ (xs : List ByteArray) (k : Nat), Zav v r1 k ⟨L.map toB, atL 0 L⟩ xs = some (xs.any fun x => decide (x = v) || ((lk x L).any fun u => u.occ v))
 | [], k => by rw [Zav]; rfl
 | x :: xs, k => by
  rw [Zav, ZiC, List.any_cons]
  by_cases h : x = v
  ·rw [decide_eq_true h]; rfl
  ·rw [decide_eq_false h, ifF, Zre, Zm, Bool.false_or, Zw2 L hL v r1 xs (k + 1)]
   rcases Zsq x L with ⟨h1, h2⟩ | ⟨i, p, h1, h2, h3, h4⟩
   ·rw [h1, h2]; rfl
   ·rw [h1, h4]
    show (((ixI (L.map toB) ((i : Nat) : Int)) >>= _) >>= _) = _
    rw [ZmQ, List.getElem?_map, h2]
    show ((ZeL p.2.ty >>= _) >>= _) = _
    rw [Zye p.2 (hL p (List.mem_of_getElem? h2)).1, Zm, Znz, Zm, Zm]
    have : (p.2.fr []).contains v = p.2.occ v := by
     rw [Bool.eq_iff_iff, ZsA, Zvb]; simp
    rw [this, Option.any_some]
    cases p.2.occ v <;> rfl
theorem ZFj (L : SB) (hL : Zjj L) (v : ByteArray) (t : ST) (ht : t.good) (hv : lk v L = none) : Zcp ⟨L.map toB, atL 0 L⟩ v t.ty = some ((t.sub L).occ v) := by
 rw [Zcp, Zye t ht, Zm, Zw2 L hL]
 congr 1
 rw [Bool.eq_iff_iff, List.any_eq_true, ZAx]
 constructor
 ·rintro ⟨x, hx, h⟩
  have hx := ((Zvb x t []).1 hx).resolve_left (by simp)
  rw [Bool.or_eq_true, decide_eq_true_iff] at h
  rcases h with h | h
  ·exact ⟨x, hx, .inl ⟨h ▸ hv, h⟩⟩
  ·cases hl : lk x L with
   | none => rw [hl] at h; cases h
   | some u => rw [hl] at h; exact ⟨x, hx, .inr ⟨u, hl, h⟩⟩
 ·rintro ⟨x, hx, h⟩
  refine ⟨x, (Zvb x t []).2 (.inr hx), ?_⟩
  rw [Bool.or_eq_true, decide_eq_true_iff]
  rcases h with ⟨_, h⟩ | ⟨u, hl, h⟩
  ·exact .inl h
  ·exact .inr (by rw [hl]; exact h)

def zty : Za := Za.mk 0 (ByteArray.mk #[]) (Zj.mk []) []
def ZrG (c : List (ByteArray × Za)) (L : SB) : Prop := ∀ x, Zfr x c = (lk x L).map ST.ty
theorem ZhE {c : List (ByteArray × Za)} {L : SB} (h : ZrG c L) (x : ByteArray) : Zeg c zty x = some (match lk x L with | some u => (u.ty, true) | none => (zty, false)) := by
 unfold Zeg
 rw [h x]
 cases lk x L <;> rfl
theorem Zrb {β : Type} (x k : ByteArray) (v : β) : ∀ c : List (ByteArray × β), Zfr x (ZgY c k v) = if x = k then some v else Zfr x c
 | [] => by
  rw [ZgY, Zfr, Zfr, Zsa]
  by_cases h : x = k
  ·rw [decide_eq_true h, ifT, if_pos h]
  ·rw [decide_eq_false h, ifF, if_neg h]; rfl
 | p :: c => by
  rw [ZgY, Zsa]
  by_cases hk : k = p.1
  ·rw [decide_eq_true hk, ifT, Zfr, Zfr, Zsa, Zsa]
   by_cases h : x = k
   ·rw [decide_eq_true h, ifT, if_pos h]
   ·rw [decide_eq_false h, ifF, if_neg h, decide_eq_false (fun e => h (e.trans hk.symm)), ifF]
  ·rw [decide_eq_false hk, ifF, Zfr, Zfr, Zsa, Zrb x k v c]
   by_cases h : x = p.1
   ·rw [decide_eq_true h, ifT, ifT, if_neg (fun e => hk (e.symm.trans h))]
   ·rw [decide_eq_false h, ifF, ifF]
theorem Ztp (x : ByteArray) (M : SB) : ∀ L : SB, lk x (L ++ M) = match lk x L with | some u => some u | none => lk x M
 | [] => rfl
 | p :: L => by
  rw [List.cons_append, lk, lk]
  by_cases h : p.1 = x
  ·rw [if_pos h, if_pos h]
  ·rw [if_neg h, if_neg h, Ztp x M L]
theorem Zs8 : ZaH (Zj.mk []) = some (Zj.mk []) := by rw [ZaH]; show ZbM _ 0 [] [] = _; rw [ZbM]
theorem ZzH (t : ST) : Zb9 t.ty = some t.ty := by
 induction t with
 | v s => rw [ST.ty, Zb9]; show (ZaH (Zj.mk []) >>= _) = _; rw [Zs8, Zm]; show ZaR _ 0 _ [] [] = _; rw [ZaR]; rfl
 | k s => rw [ST.ty, Zb9]; show (ZaH (Zj.mk []) >>= _) = _; rw [Zs8, Zm]; show ZaR _ 0 _ [] [] = _; rw [ZaR]; rfl
 | a f x ihf ihx =>
  rw [ST.ty, Zb9]
  show (ZaH (Zj.mk []) >>= _) = _
  rw [Zs8, Zm]
  show ZaR _ 0 _ [] [f.ty, x.ty] = _
  rw [ZaR, ihf, Zm, Zdt _ (by simp only [List.length_append, List.length_cons, List.length_nil]; decide), ZaR, ihx, Zm, Zdt _ (by simp only [List.length_append, List.length_cons, List.length_nil]; decide), ZaR]
  rfl
theorem Zuv (t : ST) : Zbx t.ty = some t.ty := by
 induction t with
 | v s => rw [ST.ty, Zbx]; show ZaT _ 0 [] [] = _; rw [ZaT]; rfl
 | k s => rw [ST.ty, Zbx]; show ZaT _ 0 [] [] = _; rw [ZaT]; rfl
 | a f x ihf ihx =>
  rw [ST.ty, Zbx]
  show ZaT _ 0 [] [f.ty, x.ty] = _
  rw [ZaT, ihf, Zm, Zdt _ (by simp only [List.length_append, List.length_cons, List.length_nil]; decide), ZaT, ihx, Zm, Zdt _ (by simp only [List.length_append, List.length_cons, List.length_nil]; decide), ZaT]
  rfl
theorem Zp6 {L : SB} (hL : Zjj L) {x : ByteArray} {u : ST} (h : lk x L = some u) : u.good := (hL _ (Zv5 h)).1
theorem ZkP (t : ST) : t.dep ≤ t.nod := by
 induction t with
 | v s => exact Nat.le_refl _
 | k s => exact Nat.le_refl _
 | a f x ihf ihx => rw [ST.dep, ST.nod]; omega
theorem Zw9 {L : SB} (hL : Zjj L) (t : ST) : (t.sub L).nod ≤ 20000 * t.nod := by
 induction t with
 | v s =>
  rw [ST.sub]
  cases h : lk s L with
  | none => simp [ST.nod]
  | some u => have := Zdv.1 (Zp6 hL h).2; simp only [Option.getD_some, ST.nod]; omega
 | k s => rw [ST.sub, ST.nod]; omega
 | a f x ihf ihx => rw [ST.sub, ST.nod, ST.nod]; omega
theorem ZAV {L : SB} (hL : Zjj L) (t : ST) (ht : t.nms = true) : (t.sub L).nms = true := by
 induction t with
 | v s =>
  rw [ST.sub]
  cases h : lk s L with
  | none => exact ht
  | some u => exact (Zp6 hL h).1
 | k s => exact ht
 | a f x ihf ihx => rw [ST.nms, Bool.and_eq_true] at ht; rw [ST.sub, ST.nms, ihf ht.1, ihx ht.2]; rfl
theorem ZzF {c : List (ByteArray × Za)} {L : SB} (hc : ZrG c L) (hL : Zjj L) (t : ST) : t.nod ≤ 20000 → ZbG c t.ty = some ((((t.sub L).nod : Nat) : Int), (((t.sub L).dep : Nat) : Int)) := by
 induction t with
 | v s =>
  intro hb
  rw [ST.ty, ZbG]
  show (Zeg c zty s >>= _) = _
  rw [ZhE hc, Zm, ST.sub]
  cases h : lk s L with
  | some u =>
   have hg := Zdv.1 (Zp6 hL h).2
   show (Zcv u.ty >>= _) = _
   rw [ZzX _ (by rw [Zlc]; have : BIG = 1000000000000 := rfl; omega), Zm, ZwQ _ (by rw [Zlc]; have : BIG = 1000000000000 := rfl; omega), Zm, Zlc, ZqB]
   rfl
  | none =>
   show (Zeg c zty s >>= _) = _
   rw [ZhE hc, Zm, h]
   show Zaa 0 0 _ 0 c [] = _
   rw [Zaa]; rfl
 | k s =>
  intro hb
  rw [ST.ty, ZbG]
  show (Zeg c zty s >>= _) = _
  rw [ZhE hc, Zm, ST.sub]
  have hf : ∀ r : Za × Bool, (if (r.2 && ((2 : Int) == 1)) = true then (Zcv r.1 >>= fun r12 => Zb3 r.1 >>= fun r13 => some (r12, r13)) else Zeg c zty s >>= fun r16 => if (r16.2 && ((2 : Int) == 4)) = true then none else Zaa 0 0 (Za.mk 2 s (Zj.mk []) []) 0 c []) = some (((1 : Nat) : Int), ((1 : Nat) : Int)) := by
   intro r
   rw [show (r.2 && ((2 : Int) == 1)) = false from by rw [show ((2 : Int) == 1) = false from rfl, Bool.and_false], ifF, ZhE hc, Zm]
   have h2 : ∀ q : Za × Bool, (if (q.2 && ((2 : Int) == 4)) = true then none else Zaa 0 0 (Za.mk 2 s (Zj.mk []) []) 0 c []) = Zaa 0 0 (Za.mk 2 s (Zj.mk []) []) 0 c [] := fun q => by
    rw [show (q.2 && ((2 : Int) == 4)) = false from by rw [show ((2 : Int) == 4) = false from rfl, Bool.and_false], ifF]
   rw [h2, Zaa]; rfl
  exact hf _
 | a f x ihf ihx =>
  intro hb
  rw [ST.nod] at hb
  have e := Zw9 hL (.a f x)
  have d1 := ZkP (f.sub L)
  have d2 := ZkP (x.sub L)
  rw [ST.sub, ST.nod, ST.nod] at e
  rw [ST.ty, ZbG]
  show (Zeg c zty (ByteArray.mk #[]) >>= _) = _
  rw [ZhE hc, Zm, ST.sub, ST.nod, ST.dep]
  have hf : ∀ r : Za × Bool, (if (r.2 && ((3 : Int) == 1)) = true then (Zcv r.1 >>= fun r12 => Zb3 r.1 >>= fun r13 => some (r12, r13)) else Zeg c zty (ByteArray.mk #[]) >>= fun r16 => if (r16.2 && ((3 : Int) == 4)) = true then none else Zaa 0 0 (Za.mk 3 (ByteArray.mk #[]) (Zj.mk []) [f.ty, x.ty]) 0 c [f.ty, x.ty]) = some (((1 + (f.sub L).nod + (x.sub L).nod : Nat) : Int), ((max (f.sub L).dep (x.sub L).dep + 1 : Nat) : Int)) := by
   intro r
   rw [show (r.2 && ((3 : Int) == 1)) = false from by rw [show ((3 : Int) == 1) = false from rfl, Bool.and_false], ifF, ZhE hc, Zm]
   have h2 : ∀ q : Za × Bool, (if (q.2 && ((3 : Int) == 4)) = true then none else Zaa 0 0 (Za.mk 3 (ByteArray.mk #[]) (Zj.mk []) [f.ty, x.ty]) 0 c [f.ty, x.ty]) = Zaa 0 0 (Za.mk 3 (ByteArray.mk #[]) (Zj.mk []) [f.ty, x.ty]) 0 c [f.ty, x.ty] := fun q => by
    rw [show (q.2 && ((3 : Int) == 4)) = false from by rw [show ((3 : Int) == 4) = false from rfl, Bool.and_false], ifF]
   rw [h2, Zaa, ihf (by omega), Zm, Zaa, ihx (by omega), Zm, Zaa]
   have z0 := Zgu (f.sub L).dep 0
   rw [Int.natCast_zero, Nat.max_eq_right (Nat.zero_le _)] at z0
   show some (IntKind.i64.wrap (IntKind.i64.wrap (IntKind.i64.wrap (0 + (((f.sub L).nod : Nat) : Int)) + (((x.sub L).nod : Nat) : Int)) + 1), IntKind.i64.wrap ((if (((x.sub L).dep : Nat) : Int) > (if (((f.sub L).dep : Nat) : Int) > 0 then (((f.sub L).dep : Nat) : Int) else 0) then (((x.sub L).dep : Nat) : Int) else (if (((f.sub L).dep : Nat) : Int) > 0 then (((f.sub L).dep : Nat) : Int) else 0)) + 1)) = _
   have w1 : IntKind.i64.wrap (((f.sub L).nod : Nat) : Int) = (((f.sub L).nod : Nat) : Int) := w64 (by omega) (by omega)
   have w2 : IntKind.i64.wrap ((((f.sub L).nod : Nat) : Int) + (((x.sub L).nod : Nat) : Int)) = (((f.sub L).nod : Nat) : Int) + (((x.sub L).nod : Nat) : Int) := w64 (by omega) (by omega)
   rw [z0, Zgu, Int.zero_add, w1, w2, w64 (by omega) (by omega), w64 (by omega) (by omega)]
   refine congrArg some (Prod.ext ?_ ?_)
   ·show _ = ((1 + (f.sub L).nod + (x.sub L).nod : Nat) : Int); omega
   ·show _ = ((max (f.sub L).dep (x.sub L).dep + 1 : Nat) : Int); omega
  exact hf _
theorem ZBg {c : List (ByteArray × Za)} {L : SB} (hc : ZrG c L) (t : ST) : ZcC c t.ty = some (t.sub L).ty := by
 induction t with
 | v s =>
  rw [ST.ty, ZcC]
  show (Zeg c zty s >>= _) = _
  rw [ZhE hc, Zm, ST.sub]
  cases h : lk s L with
  | some u => show (Zb9 u.ty >>= _) = _; rw [ZzH]; rfl
  | none => rfl
 | k s => rw [ST.ty, ZcC]; show ZbY _ 0 [] c [] = _; rw [ZbY]; rfl
 | a f x ihf ihx =>
  rw [ST.ty, ZcC]
  show ZbY _ 0 [] c [f.ty, x.ty] = _
  rw [ZbY, ihf, Zm, Zdt _ (by simp only [List.length_append, List.length_cons, List.length_nil]; decide), ZbY, ihx, Zm, Zdt _ (by simp only [List.length_append, List.length_cons, List.length_nil]; decide), ZbY]
  rfl
def Zm3 (L : SB) (t : ST) : Za := if (t.sub L).big = true then zty else (t.sub L).ty
theorem ZCA (a b : Nat) : (decide (((a : Nat) : Int) > 20000) || decide (((b : Nat) : Int) > 100)) = (decide (20000 < a) || decide (100 < b)) := by
 congr 1
 ·exact decide_eq_decide.2 (by omega)
 ·exact decide_eq_decide.2 (by omega)
theorem Zuc {c : List (ByteArray × Za)} {M : SB} (hc : ZrG c M) (p : ByteArray × ST) : ZrG (match Zfr p.1 c with | some _ => c | none => ZgY c p.1 p.2.ty) (M ++ [p]) := by
 intro x
 rw [Ztp]
 have e := hc p.1
 cases h : lk p.1 M with
 | some u =>
  rw [h] at e
  rw [e]
  show Zfr x c = _
  rw [hc x]
  cases hx : lk x M with
  | some w => rfl
  | none =>
   show none = (lk x [p]).map ST.ty
   rw [lk, if_neg (fun e => by rw [e] at h; rw [h] at hx; cases hx)]; rfl
 | none =>
  rw [h] at e
  rw [e]
  show Zfr x (ZgY c p.1 p.2.ty) = _
  rw [Zrb]
  by_cases hx : x = p.1
  ·rw [if_pos hx, hx, h]; show _ = (lk p.1 [p]).map ST.ty; rw [lk, if_pos rfl]; rfl
  ·rw [if_neg hx, hc x]
   cases lk x M with
   | some w => rfl
   | none => show none = (lk x [p]).map ST.ty; rw [lk, if_neg (fun e => hx e.symm)]; rfl
theorem Zw0 (s : List Ze) (t : ST) (ht : t.good) : ∀ (L M : SB) (c : List (ByteArray × Za)) (k : Nat), ZrG c M → Zjj (M ++ L) → Zcf s k t.ty c (L.map toB) = some (Zm3 (M ++ L) t)
 | [], M, c, k, hc, hg => by
  have hb := Zdv.1 ht.2
  rw [List.append_nil] at hg ⊢
  rw [List.map_nil, Zcf, ZzF hc hg t (by omega), Zm, ZCA]
  show (if (t.sub M).big = true then _ else _) = _
  unfold Zm3
  cases (t.sub M).big with
  | true => rfl
  | false => rw [ifF, ifF, ZBg hc, Zm]
 | p :: L, M, c, k, hc, hg => by
  have hp := hg p (by simp)
  have ih := Zw0 s t ht L (M ++ [p]) (match Zfr p.1 c with | some _ => c | none => ZgY c p.1 p.2.ty) (k + 1) (Zuc hc p) (by simpa using hg)
  rw [List.append_assoc, List.singleton_append] at ih
  rw [List.map_cons, Zcf]
  show (ZaS p.1 >>= _) = _
  rw [Zz9 _ (by omega), Zm, hp.2.1]
  show ((Zbt p.2.ty >>= _) >>= _) = _
  rw [ZnI _ hp.1, Zm, Zm]
  show (Zeg c zty p.1 >>= _) = _
  rw [Zeg]
  cases h : Zfr p.1 c with
  | some w => rw [h] at ih; exact ih
  | none => rw [h] at ih; exact ih
theorem ZDM (L : SB) (hL : Zjj L) (t : ST) (ht : t.good) : ZeD (L.map toB) t.ty = some (Zm3 L t) := by
 rw [ZeD, ZnI t ht, Zm]
 exact Zw0 _ t ht L [] [] 0 (fun x => rfl) hL
theorem ZtV (s : List Ze) (t : ST) (ht : t.good) : ∀ (L M : SB) (c : List (ByteArray × Za)) (k : Nat), ZrG c M → Zjj (M ++ L) → ZbP s k t.ty c (L.map toB) = some (Zm3 (M ++ L) t)
 | [], M, c, k, hc, hg => by
  have hb := Zdv.1 ht.2
  rw [List.append_nil] at hg ⊢
  rw [List.map_nil, ZbP, ZzF hc hg t (by omega), Zm, ZCA]
  show (if (t.sub M).big = true then _ else _) = _
  unfold Zm3
  cases (t.sub M).big with
  | true => rfl
  | false => rw [ifF, ifF, ZBg hc, Zm]
 | p :: L, M, c, k, hc, hg => by
  have hp := hg p (by simp)
  have ih := ZtV s t ht L (M ++ [p]) (match Zfr p.1 c with | some _ => c | none => ZgY c p.1 p.2.ty) (k + 1) (Zuc hc p) (by simpa using hg)
  rw [List.append_assoc, List.singleton_append] at ih
  rw [List.map_cons, ZbP]
  show (ZaS p.1 >>= _) = _
  rw [Zz9 _ (by omega), Zm, hp.2.1]
  show ((Zbt p.2.ty >>= _) >>= _) = _
  rw [ZnI _ hp.1, Zm, Zm]
  show (Zeg c zty p.1 >>= _) = _
  rw [Zeg]
  cases h : Zfr p.1 c with
  | some w => rw [h] at ih; exact ih
  | none => rw [h] at ih; exact ih
theorem ZDg (L : SB) (hL : Zjj L) (t : ST) (ht : t.good) : ZdZ (L.map toB) t.ty = some (Zm3 L t) := by
 rw [ZdZ, ZnI t ht, Zm]
 exact ZtV _ t ht L [] [] 0 (fun x => rfl) hL
theorem ZtQ (s : List Ze) (x : ByteArray) : ∀ (L : SB) (k : Nat), Zbm s x k (L.map toB) = some (match lk x L with | some u => (u.ty, true) | none => (zty, false))
 | [], k => by rw [List.map_nil, Zbm]; rfl
 | p :: L, k => by
  rw [List.map_cons, Zbm, ZiC, lk]
  show (if decide (p.1 = x) = true then _ else _) = _
  by_cases h : p.1 = x
  ·rw [decide_eq_true h, ifT, if_pos h]; rfl
  ·rw [decide_eq_false h, ifF, if_neg h, ZtQ s x L (k + 1)]
theorem ZyQ (L : SB) (x : ByteArray) : ZbO (L.map toB) x = some (match lk x L with | some u => (u.ty, true) | none => (zty, false)) := by rw [ZbO, ZtQ]
theorem ZCY (L : SB) (hL : Zjj L) (t : ST) : t.nod ≤ 20000 → Zas (L.map toB) [] t.ty = some ((((t.sub L).nod : Nat) : Int), (((t.sub L).dep : Nat) : Int)) := by
 induction t with
 | v s =>
  intro hb
  rw [ST.ty, Zas]
  show ((if true = true then (Zch [] s >>= fun r => some (!r)) else some false) >>= _) = _
  rw [ZAB, Zch, ZBb, Zm, Zm]
  show (ZbO (L.map toB) s >>= _) = _
  rw [ZyQ, Zm, ST.sub]
  cases h : lk s L with
  | some u =>
   have hg := Zdv.1 (Zp6 hL h).2
   show (Zay u.ty >>= _) = _
   rw [ZvI _ (by rw [Zlc]; have : BIG = 1000000000000 := rfl; omega), Zm, ZtA _ (by rw [Zlc]; have : BIG = 1000000000000 := rfl; omega), Zm, Zlc, ZqB]
   rfl
  | none =>
   show Zak _ [] _ = _
   rw [Zak]
   show Zai _ [] _ = _
   rw [Zai]
   show ZY _ [] 1 0 0 _ [] = _
   rw [ZY]; rfl
 | k s =>
  intro hb
  rw [ST.ty, Zas]
  show Zak _ [] _ = _
  rw [Zak]
  show Zai _ [] _ = _
  rw [Zai]
  show ZY _ [] 1 0 0 _ [] = _
  rw [ZY]; rfl
 | a f x ihf ihx =>
  intro hb
  rw [ST.nod] at hb
  have e := Zw9 hL (.a f x)
  have d1 := ZkP (f.sub L)
  have d2 := ZkP (x.sub L)
  rw [ST.sub, ST.nod, ST.nod] at e
  rw [ST.ty, Zas, ST.sub, ST.nod, ST.dep]
  show Zak _ [] _ = _
  rw [Zak]
  show Zai _ [] _ = _
  rw [Zai]
  show ZY _ [] 1 0 0 _ [f.ty, x.ty] = _
  rw [ZY, ihf (by omega), Zm, ZY, ihx (by omega), Zm, ZY]
  have z0 := Zgu (f.sub L).dep 0
  rw [Int.natCast_zero, Nat.max_eq_right (Nat.zero_le _)] at z0
  show some (IntKind.i64.wrap (IntKind.i64.wrap (1 + (((f.sub L).nod : Nat) : Int)) + (((x.sub L).nod : Nat) : Int)), IntKind.i64.wrap ((if (((x.sub L).dep : Nat) : Int) > (if (((f.sub L).dep : Nat) : Int) > 0 then (((f.sub L).dep : Nat) : Int) else 0) then (((x.sub L).dep : Nat) : Int) else (if (((f.sub L).dep : Nat) : Int) > 0 then (((f.sub L).dep : Nat) : Int) else 0)) + 1)) = _
  have w1 : IntKind.i64.wrap (1 + (((f.sub L).nod : Nat) : Int)) = 1 + (((f.sub L).nod : Nat) : Int) := w64 (by omega) (by omega)
  rw [z0, Zgu, w1, w64 (by omega) (by omega), w64 (by omega) (by omega)]
  refine congrArg some (Prod.ext ?_ ?_)
  ·show _ = ((1 + (f.sub L).nod + (x.sub L).nod : Nat) : Int); omega
  ·show _ = ((max (f.sub L).dep (x.sub L).dep + 1 : Nat) : Int); omega
theorem ZEl (L : SB) (t : ST) : Zaj (L.map toB) t.ty = some (t.sub L).ty := by
 induction t with
 | v s =>
  rw [ST.ty, Zaj]
  show (ZbO (L.map toB) s >>= _) = _
  rw [ZyQ, Zm, ST.sub]
  cases h : lk s L <;> rfl
 | k s => rw [ST.ty, Zaj]; rfl
 | a f x ihf ihx =>
  rw [ST.ty, Zaj]
  show ((some x.ty) >>= fun ZFv => (some f.ty) >>= fun ZF7 => Zaj (L.map toB) ZF7 >>= fun ZFS => Zaj (L.map toB) ZFv >>= fun ZGo => Zeh ZFS ZGo >>= fun ZFE => some ZFE) = _
  rw [Zm, Zm, ihf, Zm, ihx, Zm]; rfl
theorem Zwb (M : SB) (t : ST) (ht : t.good) (hM : Zjj M) : ∀ (L : SB) (k : Nat), Zjj L → ZaZ (M.map toB) k t.ty (L.map toB) = some (Zm3 M t)
 | [], k, _ => by
  have hb := Zdv.1 ht.2
  rw [List.map_nil, ZaZ, ZCY M hM t (by omega), Zm, ZCA]
  show (if (t.sub M).big = true then _ else _) = _
  unfold Zm3
  cases (t.sub M).big with
  | true => rfl
  | false => rw [ifF, ifF, ZEl, Zm]
 | p :: L, k, hg => by
  have hp := hg p (by simp)
  rw [List.map_cons, ZaZ]
  show (Zbk p.1 >>= _) = _
  rw [ZA9 _ (by omega), Zm, hp.2.1]
  show ((ZaG p.2.ty >>= _) >>= _) = _
  rw [ZqO _ hp.1, Zm, Zm]
  exact Zwb M t ht hM L (k + 1) fun q hq => hg q (by simp [hq])
theorem ZE9 (L : SB) (hL : Zjj L) (t : ST) (ht : t.good) : ZcP (L.map toB) t.ty = some (Zm3 L t) := by
 rw [ZcP, ZqO t ht, Zm]
 exact Zwb L t ht hL L 0 hL
theorem ZwX (L : SB) (t : ST) : ((Zm3 L t).fOp == 0) = (t.sub L).big := by
 unfold Zm3
 cases (t.sub L).big with
 | true => rfl
 | false => rw [ifF, ZEy]; cases t.sub L <;> rfl

def bg (v : ByteArray) (u : ST) (p : ByteArray × ST) : ByteArray × ST := (p.1, p.2.sub [(v, u)])
def ZuF (v : ByteArray) (u : ST) (p : ByteArray × ST) : Bool := (p.2.sub [(v, u)]).big
theorem ZHE {A : SB} {x : Nat} (hx : A.length = x) (p q : ByteArray × ST) (B : SB) : (((A ++ p :: B).map toB).set x (toB q)) = ((A ++ [q]) ++ B).map toB := by
 subst hx
 rw [List.map_append, List.map_append, List.map_append, List.map_cons, List.set_append_right _ _ (by simp), List.length_map, Nat.sub_self, List.set_cons_zero]
 simp
theorem ZFf {A : SB} {x : Nat} (hx : A.length = x) (p : ByteArray × ST) (B : SB) : ((A ++ p :: B).map toB)[x]? = some (toB p) := by
 subst hx; simp
theorem ZuO (v : ByteArray) (u : ST) (hu : Zjj [(v, u)]) (s : Zs) : ∀ (B A : SB) (x : Nat), A.length = x → s.flist.length = x + B.length → Zjj B → x + B.length ≤ 1000000000 →
  (B.any (ZuF v u) = true → ∃ s', Z8 v u.ty s x ((A ++ B).map toB) = some (3, s')) ∧
  (B.any (ZuF v u) = false → Z8 v u.ty s x ((A ++ B).map toB) = some (0, ⟨(A ++ B.map (bg v u) ++ [(v, u)]).map toB, ZgY s.fat v (((A ++ B).length : Nat) : Int)⟩))
 | [], A, x, hx, hs, _, hl => by
  refine ⟨fun h => (by cases h), fun _ => ?_⟩
  simp only [List.length_nil, Nat.add_zero] at hs hl
  rw [Z8, hs, decide_eq_false (by omega), ifF, Zdt]
  ·simp [toB]
  ·simp; omega
 | p :: B, A, x, hx, hs, hB, hl => by
  rw [List.length_cons] at hs hl
  have hp := hB p (by simp)
  have ih := ZuO v u hu s B (A ++ [bg v u p]) (x + 1) (by simp [hx]) (by omega) (fun q hq => hB q (by simp [hq])) (by omega)
  have e : Z8 v u.ty s x ((A ++ p :: B).map toB) = if ZuF v u p = true then some (3, ⟨(A ++ p :: B).map toB, s.fat⟩) else Z8 v u.ty s (x + 1) (((A ++ [bg v u p]) ++ B).map toB) := by
   rw [Z8, hs, decide_eq_true (by omega), ifT, ZFf hx, Zm]
   show (ZdZ ([(v, u)].map toB) p.2.ty >>= _) = _
   rw [ZDg [(v, u)] hu p.2 hp.1, Zm, ZwX, Zm]
   show (if ZuF v u p = true then _ else _) = _
   cases hb : ZuF v u p with
   | true => rfl
   | false =>
    rw [ifF, ifF]
    have hr : Zm3 [(v, u)] p.2 = (p.2.sub [(v, u)]).ty := by unfold Zm3; rw [show (p.2.sub [(v, u)]).big = false from hb, ifF]
    rw [hr]
    show Z8 v u.ty s (x + 1) (((A ++ p :: B).map toB).set x (toB (bg v u p))) = _
    rw [ZHE hx]
  rw [e, List.any_cons]
  cases hb : ZuF v u p with
  | true => exact ⟨fun _ => ⟨_, rfl⟩, fun h => by cases h⟩
  | false =>
   rw [ifF, Bool.false_or]
   refine ⟨ih.1, fun h => ?_⟩
   rw [ih.2 h]
   simp [bg]
def Zpp (L : SB) (v : ByteArray) (t : ST) : Int × SB :=
 if (t.sub L).occ v = true then (23, [])
 else if (t.sub L).big = true then (3, [])
 else if L.any (ZuF v (t.sub L)) = true then (3, [])
 else (0, L.map (bg v (t.sub L)) ++ [(v, t.sub L)])
theorem ZAr {x : ByteArray} {L : SB} (h : lk x L = none) : fi x L = none := by
 rcases Zsq x L with ⟨h1, _⟩ | ⟨i, p, _, _, _, h4⟩
 ·exact h1
 ·rw [h] at h4; cases h4
theorem ZyO (L : SB) (hL : Zjj L) (v : ByteArray) (hv : ZnY v = true ∧ v.size ≤ 1048576) (hf : lk v L = none) (t : ST) (ht : t.good) (hl : L.length ≤ 1000000000) :
  ∃ s', Zbg ⟨L.map toB, atL 0 L⟩ v t.ty = some ((Zpp L v t).1, s') ∧ ((Zpp L v t).1 = 0 → s' = ⟨(Zpp L v t).2.map toB, atL 0 (Zpp L v t).2⟩) := by
 rw [Zbg, ZFj L hL v t ht hf, Zm]
 unfold Zpp
 cases ho : (t.sub L).occ v with
 | true => exact ⟨_, rfl, fun h => by cases h⟩
 | false =>
  rw [ifF, ifF]
  show ∃ s', (ZeD (L.map toB) t.ty >>= _) = _ ∧ _
  rw [ZDM L hL t ht, Zm, ZwX]
  cases hb : (t.sub L).big with
  | true => exact ⟨_, rfl, fun h => by cases h⟩
  | false =>
   have hr : Zm3 L t = (t.sub L).ty := by unfold Zm3; rw [hb, ifF]
   have hu : Zjj [(v, t.sub L)] := fun p hp => by rw [List.mem_singleton] at hp; subst hp; exact ⟨⟨ZAV hL t ht.1, hb⟩, hv⟩
   rw [ifF, ifF, hr]
   obtain ⟨h1, h2⟩ := ZuO v (t.sub L) hu ⟨L.map toB, atL 0 L⟩ L [] 0 rfl (by simp) hL (by simpa using hl)
   rw [List.nil_append] at h1 h2
   cases hg : L.any (ZuF v (t.sub L)) with
   | true =>
    obtain ⟨s', h1⟩ := h1 hg
    exact ⟨s', h1, fun h => by cases h⟩
   | false =>
    refine ⟨_, h2 hg, fun _ => ?_⟩
    rw [List.nil_append, ZtL v (t.sub L) L 0 _ (ZAr hf) (by omega)]
    show _ = Zs.mk ((L.map (bg v (t.sub L)) ++ [(v, t.sub L)]).map toB) (atL 0 (L.map (bg v (t.sub L)) ++ [(v, t.sub L)]))
    congr 1
    have : ∀ (L M : SB) (g : ByteArray × ST → ST) (k : Nat), atL k (L.map (fun p => (p.1, g p)) ++ M) = atL k (L ++ M) := by
     intro L M g
     induction L with
     | nil => intro k; rfl
     | cons p L ih => intro k; rw [List.map_cons, List.cons_append, List.cons_append, atL, atL, ih]
    exact (this L _ (fun p => p.2.sub [(v, t.sub L)]) 0).symm

theorem ZCC (x v : ByteArray) (u : ST) : lk x [(v, u)] = if v = x then some u else none := by rw [lk]; rfl

abbrev SP := List (ST × ST)
def toP (p : ST × ST) : Zo := Zo.mk p.1.ty p.2.ty
def stk (T : SP) : List Zo := T.reverse.map toP
theorem Zym (p : ST × ST) (T : SP) : stk (p :: T) = stk T ++ [toP p] := by simp [stk]
theorem ZAD (T : SP) : (stk T).length = T.length := by simp [stk]
theorem ZDd {α : Type} (S : List α) (q : α) (h : S.length ≤ 1000000000) : ixI (S ++ [q]) (IntKind.i64.wrap ((((S ++ [q]).length : Nat) : Int) - 1)) = some q := by
 rw [List.length_append, List.length_cons, List.length_nil, w64 (by omega) (by omega), show ((S.length + (0 + 1) : Nat) : Int) - 1 = ((S.length : Nat) : Int) from by omega, ZmQ]
 simp
theorem ZDt {α : Type} (S : List α) (q : α) (h : S.length ≤ 1000000000) : slL (S ++ [q]) ((0 : Nat) : Int) (IntKind.i64.wrap ((((S ++ [q]).length : Nat) : Int) - 1)) = some S := by
 rw [List.length_append, List.length_cons, List.length_nil, w64 (by omega) (by omega), show ((S.length + (0 + 1) : Nat) : Int) - 1 = ((S.length : Nat) : Int) from by omega]
 unfold slL
 rw [if_pos ⟨by omega, by omega, by simp; omega⟩]
 simp
def Zps (L : SB) (S : List Zo) (A B : Za) : Option (Int × Zs × List Zo) :=
 if (((A.fOp == 1) && (B.fOp == 1)) && (A.fName.toList == B.fName.toList)) = true then Zw 0 (atL 0 L) (L.map toB) S
 else if (A.fOp == 1) = true then Zbg ⟨L.map toB, atL 0 L⟩ A.fName B >>= fun r => Zw r.1 r.2.fat r.2.flist S
 else if (B.fOp == 1) = true then Zbg ⟨L.map toB, atL 0 L⟩ B.fName A >>= fun r => Zw r.1 r.2.fat r.2.flist S
 else if (((A.fOp == 2) && (B.fOp == 2)) && (A.fName.toList == B.fName.toList)) = true then Zw 0 (atL 0 L) (L.map toB) S
 else if ((A.fOp == 3) && (B.fOp == 3)) = true then
  (ixI A.fKids 1) >>= fun x1 => (ixI B.fKids 1) >>= fun y1 => (ixI A.fKids 0) >>= fun x0 => (ixI B.fKids 0) >>= fun y0 =>
  ZV ((S.length + ([(Zo.mk x1 y1), (Zo.mk x0 y0)]).length) * 144 ≤ 140737488355328) >>= fun _ =>
  Zw 0 (atL 0 L) (L.map toB) (S ++ ([(Zo.mk x1 y1), (Zo.mk x0 y0)]))
 else Zw 22 (atL 0 L) (L.map toB) S
theorem ZvD (L : SB) (T : SP) (a b : ST) (h : T.length ≤ 1000000000) : ZN (atL 0 L) (L.map toB) (stk ((a, b) :: T)) = Zps L (stk T) (a.res L).ty (b.res L).ty := by
 have hs : (stk T).length ≤ 1000000000 := by rw [ZAD]; exact h
 rw [Zym, ZN, ZDd _ _ hs, ZDt _ _ hs, decide_eq_true (by simp <;> omega), ifT, Zm]
 show (ZaD ⟨L.map toB, atL 0 L⟩ a.ty >>= _) = _
 rw [ZA5, Zm, Zm]
 show (ZaD ⟨L.map toB, atL 0 L⟩ b.ty >>= _) = _
 rw [ZA5]; rfl
theorem ZBk (e : Int) (he : e ≠ 0) (at_ : List (ByteArray × Int)) (l : List Ze) (S : List Zo) : Zw e at_ l S = some (e, ⟨[], []⟩, S) := by
 have h1 : (e == 0) = false := by rw [beq_eq_false_iff_ne]; exact he
 have h2 : (e != 0) = true := by rw [bne, h1]; rfl
 rw [Zw, h2, ifT]
theorem ZHx (at_ : List (ByteArray × Int)) (l : List Ze) (S : List Zo) : Zw 0 at_ l S = ZN at_ l S := by
 rw [Zw]; rfl
theorem ZAG {p : Prop} [Decidable p] {α : Type} (x y : α) : (if decide p = true then x else y) = if p then x else y := by by_cases h : p <;> simp [h]
theorem Zui (L : SB) (S : List Zo) (x : ByteArray) (t : ST) (h : ∀ y, t = .v y → x ≠ y) : Zps L S (ST.v x).ty t.ty = (Zbg ⟨L.map toB, atL 0 L⟩ x t.ty >>= fun r => Zw r.1 r.2.fat r.2.flist S) := by
 unfold Zps
 cases t with
 | v y =>
  show (if (x.toList == y.toList) = true then _ else _) = _
  rw [ZiC, decide_eq_false (h y rfl), ifF]; rfl
 | k s => rfl
 | a f z => rfl
theorem Zzz (L : SB) (S : List Zo) (x y : ByteArray) : Zps L S (ST.k x).ty (ST.k y).ty = if x = y then Zw 0 (atL 0 L) (L.map toB) S else Zw 22 (atL 0 L) (L.map toB) S := by
 unfold Zps
 show (if (x.toList == y.toList) = true then _ else _) = _
 rw [ZiC, ZAG]; rfl
theorem ZmU {f x : ST} (h : (ST.a f x).good) : f.good ∧ x.good := by
 have h1 := h.1
 have h2 := Zdv.1 h.2
 rw [ST.nms, Bool.and_eq_true] at h1
 rw [ST.nod, ST.dep] at h2
 exact ⟨⟨h1.1, Zdv.2 (by omega)⟩, ⟨h1.2, Zdv.2 (by omega)⟩⟩

def ZvE (p : Zo) : Bool := Zkc p.e0 && Zkc p.e1
theorem Zxy {α : Type} {l : List α} {k : Nat} {x : α} (h : l[k]? = some x) : l.take (k + 1) = l.take k ++ [x] := by
 rw [List.take_add_one, h]; rfl
theorem ZyG {α : Type} {l : List α} {k : Nat} {x : α} (h : l[k]? = some x) : (l.drop k).reverse = (l.drop (k + 1)).reverse ++ [x] := by
 obtain ⟨hk, rfl⟩ := List.getElem?_eq_some_iff.1 h
 rw [List.drop_eq_getElem_cons hk, List.reverse_cons]
def ZFp (pairs : List Zo) : Option (List Ze × Int) :=
 Zc7 (Zs.mk ([] : List Ze) ([] : List (ByteArray × Int))) pairs.reverse >>= fun Zo5 => ZcG Zo5.2.1.flist >>= fun ZuT => some (ZuT, Zo5.1)
theorem Zwr (pairs : List Zo) (hl : pairs.length ≤ 1000000000) (hv : ∀ p ∈ pairs, p.e0.vol ≤ 1000000000 ∧ p.e1.vol ≤ 1000000000) : ∀ k : Nat, k ≤ pairs.length →
  Zdk pairs (((k : Nat) : Int) - 1) (pairs.drop k).reverse = if (pairs.take k).all ZvE = true then ZFp pairs else some ([], 1)
 | 0, _ => by rw [Zdk, decide_eq_false (by omega), ifF]; rfl
 | k + 1, hk => by
  have hx : pairs[k]? = some pairs[k] := List.getElem?_eq_getElem hk
  have hm := hv _ (List.mem_of_getElem? hx)
  generalize pairs[k] = x at hx hm
  rw [show ((k + 1 : Nat) : Int) - 1 = ((k : Nat) : Int) from by omega, Zdk, decide_eq_true (Int.natCast_nonneg k), ifT, ZmQ, hx, Zm, Zsc _ hm.1, Zm, Zxy hx, List.all_append]
  have e1 : ([x].all ZvE) = ZvE x := by simp
  have ih := Zwr pairs hl hv k (by omega)
  rw [e1]; unfold ZvE at ih ⊢
  cases h0 : Zkc x.e0 with
  | false => rw [Bool.false_and, Bool.and_false]; rfl
  | true =>
   show ((some x >>= fun x93 => Zcz x93.e1 >>= fun r94 => some (!r94)) >>= _) = _
   rw [Zm, Zsc _ hm.2, Zm, Zm]
   cases h1 : Zkc x.e1 with
   | false => rw [Bool.and_false, Bool.and_false]; rfl
   | true =>
    rw [Bool.true_and, Bool.and_true, Bool.not_true, ifF, Zm, Zdt _ (by simp; omega), ← ZyG hx, w64 (by omega) (by omega), ih]
theorem ZEP (pairs : List Zo) (hl : pairs.length ≤ 1000000000) (hv : ∀ p ∈ pairs, p.e0.vol ≤ 1000000000 ∧ p.e1.vol ≤ 1000000000) : ZgU pairs = if pairs.all ZvE = true then ZFp pairs else some ([], 1) := by
 have := Zwr pairs hl hv pairs.length (Nat.le_refl _)
 rw [List.drop_length, List.take_length] at this
 rw [ZgU, w64 (by omega) (by omega)]
 exact this
theorem ZwT (l : List Ze) : ∀ (L A : SB) (k : Nat), A.length + L.length ≤ 1000000000 → ZcE (A.map toB) l k (L.map toB) = some ((A ++ L).map toB)
 | [], A, k, _ => by rw [List.map_nil, ZcE, List.append_nil]
 | p :: L, A, k, h => by
  rw [List.length_cons] at h
  have ih := ZwT l L (A ++ [p]) (k + 1) (by simp; omega)
  rw [List.map_cons, ZcE]
  show (Zbx p.2.ty >>= _) = _
  rw [Zuv, Zm, Zdt _ (by simp; omega)]
  have e : A.map toB ++ [Ze.mk (toB p).fName p.2.ty] = (A ++ [p]).map toB := by simp [toB]
  rw [e, ih, List.append_assoc]; rfl
theorem ZqN (L : SB) (h : L.length ≤ 1000000000) : ZcG (L.map toB) = some (L.map toB) := by
 have := ZwT (L.map toB) L [] 0 (by simpa using h)
 rw [ZcG]; exact this
theorem ZiM : ZS (Zj.mk []) (Zj.mk []) = some true := by
 rw [ZS]
 show Za7 0 _ _ [] = _
 rw [Za7]
theorem ZqX (s : ByteArray) : Zbr [] s = some (-1) := by
 rw [Zbr, Zb6]; rfl
theorem Zvu (t : ST) : ZG t.ty t.ty [] [] = some true := by
 induction t with
 | v s =>
  rw [ST.ty, ZG]
  show ((ZS (Zj.mk []) (Zj.mk []) >>= _) >>= _) = _
  rw [ZiM, Zm, Zm]
  show (Zbr [] s >>= fun r60 => Zbr [] s >>= fun r61 => _) = _
  rw [ZqX, Zm, Zm]
  show some (true && (_ || (s.toList == s.toList))) = _
  rw [ZiC, decide_eq_true rfl, Bool.or_true]; rfl
 | k s =>
  rw [ST.ty, ZG]
  show ((ZS (Zj.mk []) (Zj.mk []) >>= _) >>= _) = _
  rw [ZiM, Zm, Zm]
  show (if (!(s.toList == s.toList)) = true then _ else Zae [] [] _ _) = _
  rw [ZiC, decide_eq_true rfl, Bool.not_true, ifF, Zae]
  show ZC [] [] 0 _ _ [] = _
  rw [ZC]
 | a f x ihf ihx =>
  rw [ST.ty, ZG]
  show ((ZS (Zj.mk []) (Zj.mk []) >>= _) >>= _) = _
  rw [ZiM, Zm, Zm]
  show (if (!((ByteArray.mk #[]).toList == (ByteArray.mk #[]).toList)) = true then _ else Zae [] [] _ _) = _
  rw [ZiC, decide_eq_true rfl, Bool.not_true, ifF, Zae]
  show ZC [] [] 0 _ _ [f.ty, x.ty] = _
  rw [ZC]
  show (some f.ty >>= _) = _
  rw [Zm, ihf, Zm]
  show ZC [] [] (0 + 1) _ _ [x.ty] = _
  rw [ZC]
  show (some x.ty >>= _) = _
  rw [Zm, ihx, Zm]
  show ZC [] [] (0 + 1 + 1) _ _ [] = _
  rw [ZC]
theorem ZrI (t : ST) (h : t.good) : ZaO t.ty t.ty = some true := by
 rw [ZaO, ZqO t h, Zm]
 show (((some 0) >>= _) >>= _) = _
 rw [Zm, Zm]
 show ((ZG t.ty t.ty [] [] >>= _) >>= _) = _
 rw [Zvu]; rfl
theorem Zyd (M : SB) (hM : Zjj M) : ∀ (L A : SB) (k : Nat), A ++ L = M → k = A.length → Zbi (M.map toB) (M.map toB) k (L.map toB) = some true
 | [], A, k, _, _ => by rw [List.map_nil, Zbi]
 | p :: L, A, k, h, hk => by
  have hp : (M.map toB)[k]? = some (toB p) := by rw [← h]; exact ZFf hk.symm p L
  have hg := hM p (by rw [← h]; simp)
  rw [List.map_cons, Zbi, hp, Zm, ZiC, decide_eq_true rfl]
  show ((ZaO p.2.ty p.2.ty >>= _) >>= _) = _
  rw [ZrI p.2 hg.1, Zm, Zm]
  exact Zyd M hM L (A ++ [p]) (k + 1) (by rw [← h]; simp) (by simp [hk])
theorem ZoY (L : SB) (hL : Zjj L) : Zcg (L.map toB) (L.map toB) = some true := by
 rw [Zcg]
 have : ((((L.map toB).length : Nat) : Int) != (((L.map toB).length : Nat) : Int)) = false := by simp
 rw [this, ifF]
 exact Zyd L hL L [] 0 rfl rfl

def bA : ByteArray := ByteArray.mk #[97]
def Zm7 : ByteArray := ByteArray.mk #[73, 110, 116]
def Zwl : ByteArray := ByteArray.mk #[66, 111, 111, 108]
def Zu2 : ByteArray := ByteArray.mk #[91, 93]
theorem okA : ZnY bA = true ∧ bA.size ≤ 1048576 := ⟨by decide +kernel, by decide +kernel⟩
theorem gA : (ST.v bA).good := ⟨by decide +kernel, by decide +kernel⟩
theorem ZBX : (ST.k Zm7).good := ⟨by decide +kernel, by decide +kernel⟩
theorem ZEo : (ST.k Zwl).good := ⟨by decide +kernel, by decide +kernel⟩
theorem ZFk : (ST.a (.k Zu2) (.v bA)).good := ⟨by decide +kernel, by decide +kernel⟩
theorem ZuK {s : ST} (h : s.good) (hn : s.nod ≤ 500) : s.ty.vol ≤ 1000000000 := by have := Zri s h.1; omega
theorem Zvl (a b : ST) (ha : a.good) (hb : b.good) (na : a.nod ≤ 500) (nb : b.nod ≤ 500) : Zcq a.ty b.ty = (ZN (atL 0 []) (([] : SB).map toB) (stk [(a, b)]) >>= fun Zo5 => ZcG Zo5.2.1.flist >>= fun ZuT => some (ZuT, Zo5.1)) := by
 rw [Zcq, ZEP _ (by simp) (fun p hp => by rw [List.mem_singleton] at hp; subst hp; exact ⟨ZuK ha na, ZuK hb nb⟩)]
 have : [Zo.mk a.ty b.ty].all ZvE = true := by simp [ZvE, Zj3 ha, Zj3 hb]
 rw [if_pos this]
 show ((ZN (atL 0 []) (([] : SB).map toB) (stk [(a, b)]) >>= fun Zo5 => ZcG Zo5.2.1.flist >>= fun ZuT => some (ZuT, Zo5.1)) >>= fun r1 => some (r1.1, r1.2)) = _
 cases ZN (atL 0 []) (([] : SB).map toB) (stk [(a, b)]) with
 | none => rfl
 | some r =>
  rw [Zm]
  cases ZcG r.2.1.flist <;> rfl
theorem Zox : Zjj [] := fun p hp => absurd hp List.not_mem_nil
theorem ex1 : Zcq (ST.v bA).ty (ST.k Zm7).ty = some ([Ze.mk bA (ST.k Zm7).ty], 0) := by
 rw [Zvl _ _ gA ZBX (by decide) (by decide), ZvD [] [] _ _ (by decide)]
 show (Zps [] (stk []) (ST.v bA).ty (ST.k Zm7).ty >>= _) = _
 rw [Zui _ _ _ _ (fun y h => by cases h)]
 obtain ⟨s', h1, h2⟩ := ZyO [] Zox bA okA rfl (.k Zm7) ZBX (by decide)
 have hb : Zpp [] bA (.k Zm7) = (0, [(bA, .k Zm7)]) := rfl
 rw [hb] at h1 h2
 rw [h1, h2 rfl, Zm]
 show (Zw 0 (atL 0 [(bA, .k Zm7)]) ([(bA, .k Zm7)].map toB) [] >>= _) = _
 rw [ZHx, ZN]
 show (ZcG ([(bA, .k Zm7)].map toB) >>= _) = _
 rw [ZqN _ (by simp)]
 rfl
theorem ex2 : Zcq (ST.v bA).ty (ST.a (.k Zu2) (.v bA)).ty = some ([], 23) := by
 rw [Zvl _ _ gA ZFk (by decide) (by decide), ZvD [] [] _ _ (by decide)]
 show (Zps [] (stk []) (ST.v bA).ty (ST.a (.k Zu2) (.v bA)).ty >>= _) = _
 rw [Zui _ _ _ _ (fun y h => by cases h)]
 obtain ⟨s', h1, h2⟩ := ZyO [] Zox bA okA rfl (.a (.k Zu2) (.v bA)) ZFk (by decide)
 have hb : Zpp [] bA (.a (.k Zu2) (.v bA)) = (23, []) := by
  unfold Zpp
  have : ((ST.a (.k Zu2) (.v bA)).sub []).occ bA = true := by simp [ST.sub, ST.occ, lk]
  rw [if_pos this]
 rw [hb] at h1
 rw [h1, Zm, ZBk 23 (by decide), Zm]
 show (ZcG (([] : SB).map toB) >>= _) = _
 rw [ZqN _ (by simp)]
 rfl
theorem ex3 : Zcq (ST.k Zm7).ty (ST.k Zwl).ty = some ([], 22) := by
 rw [Zvl _ _ ZBX ZEo (by decide) (by decide), ZvD [] [] _ _ (by decide)]
 show (Zps [] (stk []) (ST.k Zm7).ty (ST.k Zwl).ty >>= _) = _
 rw [Zzz, if_neg (by decide +kernel), ZBk 22 (by decide), Zm]
 show (ZcG (([] : SB).map toB) >>= _) = _
 rw [ZqN _ (by simp)]
 rfl
theorem ZHy : Zb5 = some true := by
 unfold Zb5 Zc1
 rw [Zm]
 show (Zcq (ST.v bA).ty (ST.k Zm7).ty >>= _) = _
 rw [ex1, Zm, Zm]
 show (Zcq (ST.v bA).ty (ST.a (.k Zu2) (.v bA)).ty >>= _) = _
 rw [ex2, Zm, Zm, Zm]
 show (Zcq (ST.k Zm7).ty (ST.k Zwl).ty >>= _) = _
 rw [ex3, Zm]
 show (some (bA.toList == bA.toList) >>= _) = _
 rw [Zm, ZiC, decide_eq_true rfl, ifT]
 show ((some (Zm7.toList == Zm7.toList)) >>= _) = _
 rw [Zm, ZiC, decide_eq_true rfl]
 rfl
theorem ZwS (l : List Za) : ∀ (xs : List Za) (n : Int) (k : Nat), (∀ t ∈ xs, t.vol ≤ 1000000000) → ∃ b, Za1 l n k xs = some b
 | [], n, k, _ => ⟨_, by rw [Za1]⟩
 | t :: xs, n, k, h => by
  have hB : BIG = 1000000000000 := rfl
  have ht := h t (by simp)
  have hn := Zts t
  rw [Za1, ZvI t (by omega), Zm, ZtA t (by omega), Zm]
  split
  ·exact ⟨false, rfl⟩
  ·exact ZwS l xs _ _ fun u hu => h u (by simp [hu])
theorem ZyN (l : List Za) (h : ∀ t ∈ l, t.vol ≤ 1000000000) : ∃ b, Zc9 l = some b := by
 rw [Zc9]; exact ZwS l l 0 0 h

deriving instance DecidableEq for ST
theorem ZGd (a : ST) : ∀ b : ST, Zbc a.ty b.ty = some (decide (a = b)) := by
 induction a with
 | v s =>
  intro b
  cases b with
  | v t =>
   rw [ST.ty, ST.ty, Zbc]
   show some (s.toList == t.toList) = _
   rw [ZiC]; simp only [ST.v.injEq]
  | k t => rw [ST.ty, ST.ty, Zbc]; rfl
  | a g y => rw [ST.ty, ST.ty, Zbc]; rfl
 | k s =>
  intro b
  cases b with
  | v t => rw [ST.ty, ST.ty, Zbc]; rfl
  | k t =>
   rw [ST.ty, ST.ty, Zbc]
   show some (s.toList == t.toList) = _
   rw [ZiC]; simp only [ST.k.injEq]
  | a g y => rw [ST.ty, ST.ty, Zbc]; rfl
 | a f x ihf ihx =>
  intro b
  cases b with
  | v t => rw [ST.ty, ST.ty, Zbc]; rfl
  | k t => rw [ST.ty, ST.ty, Zbc]; rfl
  | a g y =>
   rw [ST.ty, ST.ty, Zbc]
   show ZbS _ 0 _ [f.ty, x.ty] = _
   rw [ZbS]
   show (some g.ty >>= _) = _
   rw [Zm, ihf g, Zm]
   by_cases h1 : f = g
   ·subst h1
    rw [decide_eq_true rfl]
    show ZbS _ (0 + 1) _ [x.ty] = _
    rw [ZbS]
    show (some y.ty >>= _) = _
    rw [Zm, ihx y, Zm]
    by_cases h2 : x = y
    ·subst h2
     rw [decide_eq_true rfl]
     show ZbS _ (0 + 1 + 1) _ [] = _
     rw [ZbS]; simp
    ·rw [decide_eq_false h2]; simp [h2]
   ·rw [decide_eq_false h1]; simp [h1]
theorem ZA0 (a : ST) : ∀ b : ST, ZG a.ty b.ty [] [] = some (decide (a = b)) := by
 induction a with
 | v s =>
  intro b
  cases b with
  | v t =>
   rw [ST.ty, ST.ty, ZG]
   show ((ZS (Zj.mk []) (Zj.mk []) >>= _) >>= _) = _
   rw [ZiM, Zm, Zm]
   show (Zbr [] s >>= fun r60 => Zbr [] t >>= fun r61 => _) = _
   rw [ZqX, ZqX, Zm, Zm]
   show some (true && (false || (s.toList == t.toList))) = _
   rw [ZiC]; simp only [ST.v.injEq, Bool.true_and, Bool.false_or]
  | k t => rw [ST.ty, ST.ty, ZG]; rfl
  | a g y => rw [ST.ty, ST.ty, ZG]; rfl
 | k s =>
  intro b
  cases b with
  | v t => rw [ST.ty, ST.ty, ZG]; rfl
  | k t =>
   rw [ST.ty, ST.ty, ZG]
   show ((ZS (Zj.mk []) (Zj.mk []) >>= _) >>= _) = _
   rw [ZiM, Zm, Zm]
   show (if (!(s.toList == t.toList)) = true then _ else Zae [] [] _ _) = _
   rw [ZiC]
   by_cases h : s = t
   ·subst h
    rw [decide_eq_true rfl, Bool.not_true, ifF, Zae]
    show ZC [] [] 0 _ _ [] = _
    rw [ZC]; simp
   ·rw [decide_eq_false h, Bool.not_false, ifT]; simp [h]
  | a g y => rw [ST.ty, ST.ty, ZG]; rfl
 | a f x ihf ihx =>
  intro b
  cases b with
  | v t => rw [ST.ty, ST.ty, ZG]; rfl
  | k t => rw [ST.ty, ST.ty, ZG]; rfl
  | a g y =>
   rw [ST.ty, ST.ty, ZG]
   show ((ZS (Zj.mk []) (Zj.mk []) >>= _) >>= _) = _
   rw [ZiM, Zm, Zm]
   show (if (!((ByteArray.mk #[]).toList == (ByteArray.mk #[]).toList)) = true then _ else Zae [] [] _ _) = _
   rw [ZiC, decide_eq_true rfl, Bool.not_true, ifF, Zae]
   show ZC [] [] 0 _ _ [f.ty, x.ty] = _
   rw [ZC]
   show (some g.ty >>= _) = _
   rw [Zm, ihf g, Zm]
   by_cases h1 : f = g
   ·subst h1
    rw [decide_eq_true rfl]
    show ZC [] [] (0 + 1) _ _ [x.ty] = _
    rw [ZC]
    show (some y.ty >>= _) = _
    rw [Zm, ihx y, Zm]
    by_cases h2 : x = y
    ·subst h2
     rw [decide_eq_true rfl]
     show ZC [] [] (0 + 1 + 1) _ _ [] = _
     rw [ZC]; simp
    ·rw [decide_eq_false h2]; simp [h2]
   ·rw [decide_eq_false h1]; simp [h1]
theorem ZAR (a b : ST) (ha : a.good) (hb : b.good) : ZeF a.ty b.ty = some (decide (a = b)) := by
 rw [ZeF, ZnI a ha, Zm, ZnI b hb]
 show ((Zbc a.ty b.ty >>= fun r4 => some r4) >>= fun c5 => some c5) = _
 rw [ZGd]; rfl
theorem ZAA (a b : ST) (ha : a.good) (hb : b.good) : ZaO a.ty b.ty = some (decide (a = b)) := by
 rw [ZaO, ZqO a ha, Zm, ZqO b hb]
 show ((ZG a.ty b.ty [] [] >>= fun r4 => some r4) >>= fun c5 => some c5) = _
 rw [ZA0]; rfl

def ST.mat : ST → ST → SB → Option SB
 | .v x, t, L => match lk x L with | some u => if u = t then some L else none | none => some (L ++ [(x, t)])
 | .k x, .k y, L => if x = y then some L else none
 | .a f x, .a g y, L => match f.mat g L with | some M => x.mat y M | none => none
 | .k _, .v _, _ => none
 | .k _, .a _ _, _ => none
 | .a _ _, .v _, _ => none
 | .a _ _, .k _, _ => none
theorem Zqg (p : ST) : ∀ (t : ST) (L M : SB), p.mat t L = some M → M.length ≤ L.length + p.nod := by
 induction p with
 | v x =>
  intro t L M h
  rw [ST.mat] at h
  split at h
  ·split at h
   ·injection h with h; subst h; simp
   ·cases h
  ·injection h with h; subst h; simp [ST.nod]
 | k x =>
  intro t L M h
  cases t with
  | k y => rw [ST.mat] at h; split at h; injection h with h; subst h; simp; cases h
  | v y => rw [ST.mat] at h; cases h
  | a g y => rw [ST.mat] at h; cases h
 | a f x ihf ihx =>
  intro t L M h
  cases t with
  | a g y =>
   rw [ST.mat] at h
   split at h
   ·rename_i N hN
    have h1 := ihf g L N hN
    have h2 := ihx y N M h
    simp only [ST.nod]; omega
   ·cases h
  | v y => rw [ST.mat] at h; cases h
  | k y => rw [ST.mat] at h; cases h
def Zod (L : SB) : Prop := ∀ p ∈ L, p.2.good
theorem Zul {L : SB} (hL : Zod L) {x : ByteArray} {u : ST} (h : lk x L = some u) : u.good := hL _ (Zv5 h)
theorem ZxN {L : SB} (hL : Zod L) {x : ByteArray} {t : ST} (ht : t.good) : Zod (L ++ [(x, t)]) := fun p hp => by
 rcases List.mem_append.1 hp with h | h
 ·exact hL p h
 ·rw [List.mem_singleton] at h; subst h; exact ht
theorem Zn9 (p : ST) : ∀ (t : ST) (L M : SB), t.good → Zod L → p.mat t L = some M → Zod M := by
 induction p with
 | v x =>
  intro t L M ht hL h
  rw [ST.mat] at h
  split at h
  ·split at h
   ·injection h with h; subst h; exact hL
   ·cases h
  ·injection h with h; subst h; exact ZxN hL ht
 | k x =>
  intro t L M ht hL h
  cases t with
  | k y => rw [ST.mat] at h; split at h; injection h with h; subst h; exact hL; cases h
  | v y => rw [ST.mat] at h; cases h
  | a g y => rw [ST.mat] at h; cases h
 | a f x ihf ihx =>
  intro t L M ht hL h
  cases t with
  | a g y =>
   rw [ST.mat] at h
   obtain ⟨hg, hy⟩ := ZmU ht
   split at h
   ·rename_i N hN
    exact ihx y N M hy (ihf g L N hg hL hN) h
   ·cases h
  | v y => rw [ST.mat] at h; cases h
  | k y => rw [ST.mat] at h; cases h
theorem gp (n m : Nat) (h : n ≤ 1000000000) (k : Nat) (hk : m = 1) : (ZV ((n + m) * 88 ≤ 140737488355328)) = some () := by
 unfold ZV; rw [if_pos (by subst hk; omega)]
theorem ZEt (p : ST) : ∀ (t : ST) (L : SB), t.good → Zod L → L.length + p.nod ≤ 1000000000 →
  ∃ m, Zag ⟨L.map toB, atL 0 L⟩ p.ty t.ty = some ((p.mat t L).isSome, m) ∧ ∀ M, p.mat t L = some M → m = ⟨M.map toB, atL 0 M⟩ := by
 induction p with
 | v x =>
  intro t L ht hL hl
  rw [ST.ty, Zag]
  show ∃ m, (Zeg (atL 0 L) 0 x >>= _) = _ ∧ _
  rw [Zre, Zm, ST.mat]
  rcases Zsq x L with ⟨h1, h2⟩ | ⟨i, p, h1, h2, h3, h4⟩
  ·rw [h1, h2]
   show ∃ m, (ZV (((L.map toB).length + 1) * 88 ≤ 140737488355328) >>= _) = _ ∧ _
   rw [gp _ 1 (by simp [ST.nod] at hl ⊢; omega) 0 rfl, Zm]
   refine ⟨_, rfl, fun M hM => ?_⟩
   injection hM with hM
   subst hM
   show Zbj.mk (L.map toB ++ [Ze.mk x t.ty]) (ZgY (atL 0 L) x (((L.map toB).length : Nat) : Int)) = _
   rw [List.length_map, ZtL x t L 0 L.length h1 (by simp), List.map_append]
   rfl
  ·rw [h1, h4]
   show ∃ m, (ixI (L.map toB) ((i : Nat) : Int) >>= _) = _ ∧ _
   rw [ZmQ, List.getElem?_map, h2]
   show ∃ m, (some (toB p) >>= _) = _ ∧ _
   rw [Zm]
   show ∃ m, (ZeF p.2.ty t.ty >>= _) = _ ∧ _
   rw [ZAR p.2 t (Zul hL h4) ht, Zm]
   refine ⟨⟨L.map toB, atL 0 L⟩, ?_, fun M hM => ?_⟩
   ·by_cases he : p.2 = t
    ·simp [he]
    ·simp [he]
   ·by_cases he : p.2 = t
    ·simp only [he, if_true, Option.some.injEq] at hM; subst hM; rfl
    ·simp [he] at hM
 | k x =>
  intro t L ht hL hl
  rw [ST.ty, Zag]
  cases t with
  | k y =>
   show ∃ m, (if ((false || !(x.toList == y.toList)) || false) = true then _ else _) = _ ∧ _
   rw [ZiC, ST.mat, Bool.false_or, Bool.or_false]
   by_cases h : x = y
   ·subst h
    rw [decide_eq_true rfl, Bool.not_true, ifF]
    show ∃ m, ZT _ 0 _ (L.map toB) (atL 0 L) [] = _ ∧ _
    rw [ZT]
    exact ⟨⟨L.map toB, atL 0 L⟩, by simp, fun M hM => by simp at hM; subst hM; rfl⟩
   ·rw [decide_eq_false h, Bool.not_false, ifT]
    exact ⟨⟨L.map toB, atL 0 L⟩, by simp [h], fun M hM => by simp [h] at hM⟩
  | v y => exact ⟨_, rfl, fun M hM => by rw [ST.mat] at hM; cases hM⟩
  | a g y => exact ⟨_, rfl, fun M hM => by rw [ST.mat] at hM; cases hM⟩
 | a f x ihf ihx =>
  intro t L ht hL hl
  rw [ST.ty, Zag]
  cases t with
  | v y => exact ⟨_, rfl, fun M hM => by rw [ST.mat] at hM; cases hM⟩
  | k y => exact ⟨_, rfl, fun M hM => by rw [ST.mat] at hM; cases hM⟩
  | a g y =>
   obtain ⟨hg, hy⟩ := ZmU ht
   simp only [ST.nod] at hl
   show ∃ m, (if ((false || !((ByteArray.mk #[]).toList == (ByteArray.mk #[]).toList)) || false) = true then _ else _) = _ ∧ _
   rw [ZiC, decide_eq_true rfl, Bool.false_or, Bool.or_false, Bool.not_true, ifF]
   show ∃ m, ZT _ 0 _ (L.map toB) (atL 0 L) [f.ty, x.ty] = _ ∧ _
   rw [ZT]
   show ∃ m, (some g.ty >>= _) = _ ∧ _
   rw [Zm]
   obtain ⟨m1, h1, h2⟩ := ihf g L hg hL (by omega)
   rw [h1, Zm, ST.mat]
   cases hm : f.mat g L with
   | none => exact ⟨_, rfl, fun M hM => by cases hM⟩
   | some N =>
    rw [h2 N hm]
    show ∃ m, ZT _ (0 + 1) _ (N.map toB) (atL 0 N) [x.ty] = _ ∧ _
    rw [ZT]
    show ∃ m, (some y.ty >>= _) = _ ∧ _
    rw [Zm]
    have hn := Zqg f g L N hm
    obtain ⟨m3, h3, h4⟩ := ihx y N hy (Zn9 f g L N hg hL hm) (by omega)
    rw [h3, Zm]
    show ∃ m, _ = some ((x.mat y N).isSome, m) ∧ ∀ M, x.mat y N = some M → _
    cases hm2 : x.mat y N with
    | none => exact ⟨_, rfl, fun M hM => by cases hM⟩
    | some M =>
     rw [h4 M hm2]
     show ∃ m, ZT _ (0 + 1 + 1) _ (M.map toB) (atL 0 M) [] = _ ∧ _
     rw [ZT]
     exact ⟨_, rfl, fun M' hM => by injection hM with hM; subst hM; rfl⟩
theorem ZsF (s : List Ze) (x : ByteArray) : ∀ (L : SB) (k : Nat), ZaY x k s (L.map toB) = some (match fi x L with | some i => ((k + i : Nat) : Int) | none => -1)
 | [], k => by rw [List.map_nil, ZaY]; rfl
 | p :: L, k => by
  rw [List.map_cons, ZaY, ZiC, fi]
  show (if decide (p.1 = x) = true then _ else _) = _
  by_cases h : p.1 = x
  ·rw [decide_eq_true h, ifT, if_pos h]; rfl
  ·rw [decide_eq_false h, ifF, if_neg h, ZsF s x L (k + 1)]
   cases fi x L with
   | none => rfl
   | some i => simp only [Option.map_some]; congr 2; omega
theorem Zwq (x : ByteArray) (L : SB) : ZbR (L.map toB) x = some (match fi x L with | some i => ((i : Nat) : Int) | none => -1) := by
 rw [ZbR, ZsF]
 cases fi x L with
 | none => rfl
 | some i => simp only [Nat.zero_add]
theorem ZA6 (p : ST) : ∀ (t : ST) (L : SB), t.good → Zod L → L.length + p.nod ≤ 1000000000 →
  ∃ s s', Z0 (L.map toB) p.ty t.ty = some (s, (p.mat t L).isSome, s') ∧ ∀ M, p.mat t L = some M → s = M.map toB ∧ s' = M.map toB := by
 induction p with
 | v x =>
  intro t L ht hL hl
  rw [ST.ty, Z0]
  show ∃ s s', (ZbR (L.map toB) x >>= _) = _ ∧ _
  rw [Zwq, Zm, ST.mat]
  rcases Zsq x L with ⟨h1, h2⟩ | ⟨i, p, h1, h2, h3, h4⟩
  ·rw [h1, h2]
   show ∃ s s', (ZV (((L.map toB).length + 1) * 88 ≤ 140737488355328) >>= _) = _ ∧ _
   rw [gp _ 1 (by simp [ST.nod] at hl ⊢; omega) 0 rfl, Zm]
   refine ⟨_, _, rfl, fun M hM => ?_⟩
   injection hM with hM
   subst hM
   rw [List.map_append]
   exact ⟨rfl, rfl⟩
  ·rw [h1, h4]
   show ∃ s s', (if decide (((i : Nat) : Int) ≥ 0) = true then _ else _) = _ ∧ _
   rw [decide_eq_true (Int.natCast_nonneg i), ifT]
   show ∃ s s', (ixI (L.map toB) ((i : Nat) : Int) >>= _) = _ ∧ _
   rw [ZmQ, List.getElem?_map, h2]
   show ∃ s s', (some (toB p) >>= _) = _ ∧ _
   rw [Zm]
   show ∃ s s', (ZaO p.2.ty t.ty >>= _) = _ ∧ _
   rw [ZAA p.2 t (Zul hL h4) ht, Zm]
   refine ⟨L.map toB, L.map toB, ?_, fun M hM => ?_⟩
   ·by_cases he : p.2 = t
    ·simp [he]
    ·simp [he]
   ·by_cases he : p.2 = t
    ·simp only [he, if_true, Option.some.injEq] at hM; subst hM; exact ⟨rfl, rfl⟩
    ·simp [he] at hM
 | k x =>
  intro t L ht hL hl
  rw [ST.ty, Z0]
  cases t with
  | k y =>
   show ∃ s s', (if (false || !(x.toList == y.toList)) = true then _ else _) = _ ∧ _
   rw [ZiC, ST.mat, Bool.false_or]
   by_cases h : x = y
   ·subst h
    rw [decide_eq_true rfl, Bool.not_true, ifF]
    rw [ZZ]
    exact ⟨L.map toB, L.map toB, by simp [ST.ty]; exact fun h => absurd (show 0 < 0 from h) (by decide), fun M hM => by simp at hM; subst hM; exact ⟨rfl, rfl⟩⟩
   ·rw [decide_eq_false h, Bool.not_false, ifT]
    exact ⟨[], [], by simp [h], fun M hM => by simp [h] at hM⟩
  | v y => exact ⟨_, _, rfl, fun M hM => by rw [ST.mat] at hM; cases hM⟩
  | a g y => exact ⟨_, _, rfl, fun M hM => by rw [ST.mat] at hM; cases hM⟩
 | a f x ihf ihx =>
  intro t L ht hL hl
  rw [ST.ty, Z0]
  cases t with
  | v y => exact ⟨_, _, rfl, fun M hM => by rw [ST.mat] at hM; cases hM⟩
  | k y => exact ⟨_, _, rfl, fun M hM => by rw [ST.mat] at hM; cases hM⟩
  | a g y =>
   obtain ⟨hg, hy⟩ := ZmU ht
   simp only [ST.nod] at hl
   show ∃ s s', (if (false || !((ByteArray.mk #[]).toList == (ByteArray.mk #[]).toList)) = true then _ else _) = _ ∧ _
   rw [ZiC, decide_eq_true rfl, Bool.false_or, Bool.not_true, ifF, ZZ]
   show ∃ s s', (some f.ty >>= fun x82 => some g.ty >>= fun x83 => Z0 _ x82 x83 >>= _) = _ ∧ _
   rw [Zm, Zm]
   obtain ⟨s1, s1', h1, h2⟩ := ihf g L hg hL (by omega)
   rw [h1, Zm, ST.mat]
   show ∃ s s', (some () >>= _) = _ ∧ _
   rw [Zm]
   cases hm : f.mat g L with
   | none =>
    show ∃ s s', ZZ false (0 + 1) _ _ s1' = _ ∧ _
    rw [ZZ, Bool.and_false, ifF]
    exact ⟨_, _, rfl, fun M hM => by cases hM⟩
   | some N =>
    obtain ⟨rfl, rfl⟩ := h2 N hm
    show ∃ s s', ZZ true (0 + 1) _ _ (N.map toB) = _ ∧ _
    rw [ZZ]
    show ∃ s s', (some x.ty >>= fun x82 => some y.ty >>= fun x83 => Z0 _ x82 x83 >>= _) = _ ∧ _
    rw [Zm, Zm]
    have hn := Zqg f g L N hm
    obtain ⟨s3, s3', h3, h4⟩ := ihx y N hy (Zn9 f g L N hg hL hm) (by omega)
    rw [h3, Zm]
    show ∃ s s', (some () >>= _) = some (s, (x.mat y N).isSome, s') ∧ ∀ M, x.mat y N = some M → _
    rw [Zm]
    show ∃ s s', ZZ (x.mat y N).isSome (0 + 1 + 1) _ _ s3' = _ ∧ _
    rw [ZZ]
    show ∃ s s', some (s3', (x.mat y N).isSome, s3') = _ ∧ _
    exact ⟨_, _, rfl, fun M hM => ⟨(h4 M hM).2, (h4 M hM).2⟩⟩
theorem ZDj (p t : ST) (ht : t.good) (hl : p.nod ≤ 1000000000) : ∃ s, ZbX p.ty t.ty = some (s, (p.mat t []).isSome) ∧ ∀ M, p.mat t [] = some M → s = M.map toB := by
 have nl : Zod [] := fun p hp => absurd hp List.not_mem_nil
 cases p with
 | v x =>
  rw [ST.ty, ZbX]
  show ∃ s, (ZbR (([] : SB).map toB) x >>= _) = _ ∧ _
  rw [Zwq, Zm]
  show ∃ s, (ZV ((0 + 1) * 88 ≤ 140737488355328) >>= _) = _ ∧ _
  rw [gp 0 1 (by decide) 0 rfl, Zm]
  exact ⟨_, rfl, fun M hM => by injection hM with hM; subst hM; rfl⟩
 | k x =>
  rw [ST.ty, ZbX]
  cases t with
  | k y =>
   show ∃ s, (if (false || !(x.toList == y.toList)) = true then _ else _) = _ ∧ _
   rw [ZiC, ST.mat, Bool.false_or]
   by_cases h : x = y
   ·subst h
    rw [decide_eq_true rfl, Bool.not_true, ifF]
    rw [Z6]
    exact ⟨[], by simp [ST.ty]; exact fun h => absurd (show 0 < 0 from h) (by decide), fun M hM => by simp at hM; subst hM; rfl⟩
   ·rw [decide_eq_false h, Bool.not_false, ifT]
    exact ⟨[], by simp [h], fun M hM => by simp [h] at hM⟩
  | v y => exact ⟨_, rfl, fun M hM => by rw [ST.mat] at hM; cases hM⟩
  | a g y => exact ⟨_, rfl, fun M hM => by rw [ST.mat] at hM; cases hM⟩
 | a f x =>
  rw [ST.ty, ZbX]
  cases t with
  | v y => exact ⟨_, rfl, fun M hM => by rw [ST.mat] at hM; cases hM⟩
  | k y => exact ⟨_, rfl, fun M hM => by rw [ST.mat] at hM; cases hM⟩
  | a g y =>
   obtain ⟨hg, hy⟩ := ZmU ht
   simp only [ST.nod] at hl
   show ∃ s, (if (false || !((ByteArray.mk #[]).toList == (ByteArray.mk #[]).toList)) = true then _ else _) = _ ∧ _
   rw [ZiC, decide_eq_true rfl, Bool.false_or, Bool.not_true, ifF, Z6]
   show ∃ s, (some f.ty >>= fun x82 => some g.ty >>= fun x83 => Z0 (([] : SB).map toB) x82 x83 >>= _) = _ ∧ _
   rw [Zm, Zm]
   obtain ⟨s1, s1', h1, h2⟩ := ZA6 f g [] hg nl (by simp; omega)
   rw [h1, Zm, ST.mat]
   show ∃ s, (some () >>= _) = _ ∧ _
   rw [Zm]
   cases hm : f.mat g [] with
   | none =>
    show ∃ s, Z6 false (0 + 1) _ _ s1' = _ ∧ _
    rw [Z6, Bool.and_false, ifF]
    exact ⟨_, rfl, fun M hM => by cases hM⟩
   | some N =>
    obtain ⟨rfl, rfl⟩ := h2 N hm
    show ∃ s, Z6 true (0 + 1) _ _ (N.map toB) = _ ∧ _
    rw [Z6]
    show ∃ s, (some x.ty >>= fun x82 => some y.ty >>= fun x83 => Z0 _ x82 x83 >>= _) = _ ∧ _
    rw [Zm, Zm]
    have hn := Zqg f g [] N hm
    simp only [List.length_nil] at hn
    obtain ⟨s3, s3', h3, h4⟩ := ZA6 x y N hy (Zn9 f g [] N hg nl hm) (by omega)
    rw [h3, Zm]
    show ∃ s, (some () >>= _) = some (s, (x.mat y N).isSome) ∧ ∀ M, x.mat y N = some M → _
    rw [Zm]
    show ∃ s, Z6 (x.mat y N).isSome (0 + 1 + 1) _ _ s3' = _ ∧ _
    rw [Z6]
    show ∃ s, some (s3', (x.mat y N).isSome) = _ ∧ _
    exact ⟨_, rfl, fun M hM => (h4 M hM).2⟩

theorem Zuz (l : List Ze) : ∀ (L A : SB) (k : Nat), A.length + L.length ≤ 1000000000 → Zci (A.map toB) l k (L.map toB) = some ((A ++ L).map toB)
 | [], A, k, _ => by rw [List.map_nil, Zci, List.append_nil]
 | p :: L, A, k, h => by
  rw [List.length_cons] at h
  have ih := Zuz l L (A ++ [p]) (k + 1) (by simp; omega)
  rw [List.map_cons, Zci]
  show (Zbx p.2.ty >>= _) = _
  rw [Zuv, Zm, Zdt _ (by simp; omega)]
  have e : A.map toB ++ [Ze.mk (toB p).fName p.2.ty] = (A ++ [p]).map toB := by simp [toB]
  rw [e, ih, List.append_assoc]; rfl
theorem Zxx (L : SB) (h : L.length ≤ 1000000000) : ZdY (L.map toB) = some (L.map toB) := by
 have := Zuz (L.map toB) L [] 0 (by simpa using h)
 rw [ZdY]; exact this
def Zz5 (s t : ST) : List Ze × Int := match s.mat t [] with | some M => (M.map toB, 0) | none => ([], 22)
theorem ZEX : Zod [] := fun p hp => absurd hp List.not_mem_nil
theorem ZAz (s t : ST) (hs : s.good) (ht : t.good) (hn : s.nod ≤ 100000000) (hv : s.ty.vol ≤ 1000000000) (hw : t.ty.vol ≤ 1000000000) : Zd8 s.ty t.ty = some (Zz5 s t) := by
 rw [Zd8, Zsc _ hv, Zj3 hs, Zm]
 show ((Zcz t.ty >>= _) >>= _) = _
 rw [Zsc _ hw, Zj3 ht, Zm, Zm]
 show (Zag ⟨([] : SB).map toB, atL 0 []⟩ s.ty t.ty >>= _) = _
 obtain ⟨m, h1, h2⟩ := ZEt s t [] ht ZEX (by simp; omega)
 rw [h1, Zm, Zz5]
 cases hm : s.mat t [] with
 | none => rfl
 | some M =>
  rw [h2 M hm]
  show (ZdY (M.map toB) >>= _) = _
  have := Zqg s t [] M hm
  rw [Zxx M (by simp at this; omega)]
  rfl
theorem ZAo (s t : ST) (hs : s.good) (ht : t.good) (hn : s.nod ≤ 100000000) (hv : s.ty.vol ≤ 1000000000) (hw : t.ty.vol ≤ 1000000000) : Zcj s.ty t.ty = some (Zz5 s t) := by
 rw [Zcj, Zxf _ hv, Zj3 hs, Zm]
 show ((Zbw t.ty >>= _) >>= _) = _
 rw [Zxf _ hw, Zj3 ht, Zm, Zm]
 show (ZbX s.ty t.ty >>= _) = _
 obtain ⟨l, h1, h2⟩ := ZDj s t ht (by omega)
 rw [h1, Zm, Zz5]
 cases hm : s.mat t [] with
 | none => rfl
 | some M =>
  rw [h2 M hm]
  rfl
theorem Zvm (a b : Za) (hv : a.vol ≤ 1000000000) (hw : b.vol ≤ 1000000000) (h : (Zkc a && Zkc b) = false) : Zd8 a b = some ([], 1) := by
 rw [Zd8, Zsc _ hv, Zm]
 cases ha : Zkc a with
 | false => rfl
 | true =>
  rw [ha, Bool.true_and] at h
  show ((Zcz b >>= _) >>= _) = _
  rw [Zsc _ hw, h]; rfl
theorem Zva (a b : Za) (hv : a.vol ≤ 1000000000) (hw : b.vol ≤ 1000000000) (h : (Zkc a && Zkc b) = false) : Zcj a b = some ([], 1) := by
 rw [Zcj, Zxf _ hv, Zm]
 cases ha : Zkc a with
 | false => rfl
 | true =>
  rw [ha, Bool.true_and] at h
  show ((Zbw b >>= _) >>= _) = _
  rw [Zxf _ hw, h]; rfl
theorem ZAs (p : ST) : ∀ (t : ST) (L M : SB), p.mat t L = some M → ∀ x u, lk x L = some u → lk x M = some u := by
 induction p with
 | v x =>
  intro t L M h y u hy
  rw [ST.mat] at h
  split at h
  ·split at h
   ·injection h with h; subst h; exact hy
   ·cases h
  ·injection h with h; subst h; rw [Ztp, hy]
 | k x =>
  intro t L M h y u hy
  cases t with
  | k z => rw [ST.mat] at h; split at h; injection h with h; subst h; exact hy; cases h
  | v z => rw [ST.mat] at h; cases h
  | a g z => rw [ST.mat] at h; cases h
 | a f x ihf ihx =>
  intro t L M h y u hy
  cases t with
  | a g z =>
   rw [ST.mat] at h
   split at h
   ·rename_i N hN
    exact ihx z N M h y u (ihf g L N hN y u hy)
   ·cases h
  | v z => rw [ST.mat] at h; cases h
  | k z => rw [ST.mat] at h; cases h
theorem ZAW {x : ByteArray} {t : ST} {L : SB} (h : lk x L = none) : lk x (L ++ [(x, t)]) = some t := by
 rw [Ztp, h]; show lk x [(x, t)] = _; rw [ZCC, if_pos rfl]
theorem ZAf (p : ST) : ∀ (t : ST) (L M : SB), p.mat t L = some M → ∀ M' : SB, (∀ x u, lk x M = some u → lk x M' = some u) → p.sub M' = t := by
 induction p with
 | v x =>
  intro t L M h M' hM'
  rw [ST.mat] at h
  rw [ST.sub]
  split at h
  ·rename_i u hu
   split at h
   ·rename_i he; injection h with h; subst h; rw [hM' x u hu, he]; rfl
   ·cases h
  ·rename_i hu
   injection h with h
   rw [hM' x t (by rw [← h]; exact ZAW hu)]; rfl
 | k x =>
  intro t L M h M' hM'
  cases t with
  | k y => rw [ST.mat] at h; split at h; rename_i he; rw [ST.sub, he]; cases h
  | v y => rw [ST.mat] at h; cases h
  | a g y => rw [ST.mat] at h; cases h
 | a f x ihf ihx =>
  intro t L M h M' hM'
  cases t with
  | a g y =>
   rw [ST.mat] at h
   split at h
   ·rename_i N hN
    rw [ST.sub, ihf g L N hN M' (fun z u hz => hM' z u (ZAs x y N M h z u hz)), ihx y N M h M' hM']
   ·cases h
  | v y => rw [ST.mat] at h; cases h
  | k y => rw [ST.mat] at h; cases h
theorem Zxq (p : ST) : ∀ (t : ST) (L M : SB), p.nms = true → p.mat t L = some M → (∀ q ∈ L, ZnY q.1 = true ∧ q.1.size ≤ 1048576) → ∀ q ∈ M, ZnY q.1 = true ∧ q.1.size ≤ 1048576 := by
 induction p with
 | v x =>
  intro t L M hp h hL
  rw [ST.mat] at h
  split at h
  ·split at h
   ·injection h with h; subst h; exact hL
   ·cases h
  ·injection h with h
   subst h
   intro q hq
   rcases List.mem_append.1 hq with hq | hq
   ·exact hL q hq
   ·rw [List.mem_singleton] at hq; subst hq
    simp only [ST.nms, Bool.and_eq_true, decide_eq_true_eq] at hp
    exact hp
 | k x =>
  intro t L M hp h hL
  cases t with
  | k z => rw [ST.mat] at h; split at h; injection h with h; subst h; exact hL; cases h
  | v z => rw [ST.mat] at h; cases h
  | a g z => rw [ST.mat] at h; cases h
 | a f x ihf ihx =>
  intro t L M hp h hL
  simp only [ST.nms, Bool.and_eq_true] at hp
  cases t with
  | a g z =>
   rw [ST.mat] at h
   split at h
   ·rename_i N hN
    exact ihx z N M hp.2 h (ihf g L N hp.1 hN hL)
   ·cases h
  | v z => rw [ST.mat] at h; cases h
  | k z => rw [ST.mat] at h; cases h
theorem Zyz {s t : ST} {M : SB} (hs : s.good) (ht : t.good) (h : s.mat t [] = some M) : Zjj M := fun q hq =>
 ⟨Zn9 s t [] M ht ZEX h q hq, Zxq s t [] M hs.1 h (fun q hq => absurd hq List.not_mem_nil) q hq⟩
theorem Zvs (a b : Za) (h : a.vol + b.vol ≤ 1048576) : ZbJ a b = some true := by
 obtain ⟨sm, hsm⟩ := ZyN [a, b] (fun t ht => by simp at ht; rcases ht with rfl | rfl <;> omega)
 unfold ZbJ
 rw [hsm, Zm, ZHy]
 cases sm with
 | false => rfl
 | true =>
  rw [Bool.not_true, ifF]
  cases hb : Zkc a && Zkc b with
  | false =>
   rw [Zvm a b (by omega) (by omega) hb, Zm, Zva a b (by omega) (by omega) hb, Zm]
   show ((Zcg (([] : SB).map toB) (([] : SB).map toB) >>= _) >>= _) = _
   rw [ZoY [] Zox]
   rfl
  | true =>
   simp only [Bool.and_eq_true] at hb
   obtain ⟨s, rfl, hs⟩ := Zyg (by omega) hb.1
   obtain ⟨t, rfl, ht⟩ := Zyg (by omega) hb.2
   have hn : s.nod ≤ 20000 := (Zdv.1 hs.2).1
   rw [ZAz s t hs ht (by omega) (by omega) (by omega), Zm, ZAo s t hs ht (by omega) (by omega) (by omega), Zm, Zz5]
   cases hm : s.mat t [] with
   | none =>
    show ((Zcg (([] : SB).map toB) (([] : SB).map toB) >>= _) >>= _) = _
    rw [ZoY [] Zox]
    rfl
   | some M =>
    have hG := Zyz hs ht hm
    show ((Zcg (M.map toB) (M.map toB) >>= _) >>= _) = _
    rw [ZoY M hG, Zm, Zm, ifT]
    show ((((ZcP (M.map toB) s.ty >>= _) >>= _) >>= _)) = _
    have hsub := ZAf s t [] M hm M (fun _ _ h => h)
    rw [ZE9 M hG s hs, Zm, Zm3, hsub, ht.2, ifF, ZrI t ht]
    rfl

theorem ZmO {t : Nat} {k : TK} {es : List E} (hk : (tab.ti t).k = k) (h1 : ∀ fs, k ≠ .struct fs) (h2 : ∀ e, k ≠ .slice e) : (t = 25 → ∃ v : Zj, es = v.cells) ∧ (t = 23 → ∃ l : List Zj, es = [.sl (l.map Zj.cells)]) :=
 ⟨fun ht => by subst ht; exact absurd hk.symm (h1 _), fun ht => by subst ht; exact absurd hk.symm (h2 _)⟩
theorem Zys {t : Nat} {es : List E} (h : Sh tab t es) : (t = 25 → ∃ v : Zj, es = v.cells) ∧ (t = 23 → ∃ l : List Zj, es = [.sl (l.map Zj.cells)]) := by
 induction h with
 | bool t b h => exact ZmO h (by simp) (by simp)
 | int t k n h hn => exact ZmO h (by simp) (by simp)
 | string t s h hs => exact ZmO h (by simp) (by simp)
 | array t n e parts h hl hf => exact ZmO h (by simp) (by simp)
 | slice t e rows h hl hr ih =>
  refine ⟨fun ht => (by subst ht; cases h), fun ht => ?_⟩
  subst ht
  have he : e = 25 := by injection h with h; exact h.symm
  subst he
  obtain ⟨l, rfl⟩ := Zq0 (f := Zj.cells) rows fun row hm => by
   obtain ⟨i, hi, rfl⟩ := List.mem_iff_getElem.1 hm
   exact (ih i _ (List.getElem?_eq_getElem hi)).1 rfl
  exact ⟨l, rfl⟩
 | struct t fs parts h hl hf ih =>
  refine ⟨fun ht => ?_, fun ht => (by subst ht; cases h)⟩
  subst ht
  have he : fs = [(23, 0)] := by injection h with h; exact h.symm
  subst he
  obtain ⟨a, rfl⟩ := ZGk hl
  obtain ⟨l, rfl⟩ := (ih 0 23 0 a rfl rfl).2 rfl
  exact ⟨.mk l, by rw [Zj.cells_eq]; rfl⟩
theorem ZA3 {es : List E} (h : Sh tab 25 es) : ∃ v : Zj, es = v.cells := (Zys h).1 rfl
theorem ZmS {t : Nat} {k : TK} {es : List E} (hk : (tab.ti t).k = k) (h1 : ∀ fs, k ≠ .struct fs) (h2 : ∀ e, k ≠ .slice e) : (t = 28 → ∃ v : Za, es = v.cells) ∧ (t = 26 → ∃ l : List Za, es = [.sl (l.map Za.cells)]) :=
 ⟨fun ht => by subst ht; exact absurd hk.symm (h1 _), fun ht => by subst ht; exact absurd hk.symm (h2 _)⟩
theorem ZyE {t : Nat} {es : List E} (h : Sh tab t es) : (t = 28 → ∃ v : Za, es = v.cells) ∧ (t = 26 → ∃ l : List Za, es = [.sl (l.map Za.cells)]) := by
 induction h with
 | bool t b h => exact ZmS h (by simp) (by simp)
 | int t k n h hn => exact ZmS h (by simp) (by simp)
 | string t s h hs => exact ZmS h (by simp) (by simp)
 | array t n e parts h hl hf => exact ZmS h (by simp) (by simp)
 | slice t e rows h hl hr ih =>
  refine ⟨fun ht => (by subst ht; cases h), fun ht => ?_⟩
  subst ht
  have he : e = 28 := by injection h with h; exact h.symm
  subst he
  obtain ⟨l, rfl⟩ := Zq0 (f := Za.cells) rows fun row hm => by
   obtain ⟨i, hi, rfl⟩ := List.mem_iff_getElem.1 hm
   exact (ih i _ (List.getElem?_eq_getElem hi)).1 rfl
  exact ⟨l, rfl⟩
 | struct t fs parts h hl hf ih =>
  refine ⟨fun ht => ?_, fun ht => (by subst ht; cases h)⟩
  subst ht
  have he : fs = [(22, 0), (9, 1), (25, 2), (26, 3)] := by injection h with h; exact h.symm
  subst he
  obtain ⟨a, b, c, d, rfl⟩ := ZG6 hl
  obtain ⟨op, rfl, _⟩ := ZCG (hf 0 22 0 a rfl rfl) (k := .i64) rfl
  obtain ⟨name, rfl, _⟩ := Zxt (hf 1 9 1 b rfl rfl) rfl
  obtain ⟨bd, rfl⟩ := ZA3 (hf 2 25 2 c rfl rfl)
  obtain ⟨kids, rfl⟩ := (ih 3 26 3 d rfl rfl).2 rfl
  exact ⟨.mk op name bd kids, by rw [Za.cells_eq, Zj.cells_eq]; rfl⟩
theorem ZwH {es : List E} (h : Sh tab 28 es) : ∃ v : Za, es = v.cells := (ZyE h).1 rfl
theorem Zxj (k : Zj) : k.nod ≤ ZcQ k.cells := by
 refine Zj.ind (M := fun k => k.nod ≤ ZcQ k.cells) (fun v ih => ?_) k
 have key : ∀ l : List Zj, (∀ x ∈ l, x.nod ≤ ZcQ x.cells) → Zj.nods l ≤ Zif (l.map Zj.cells) := by
  intro l
  induction l with
  | nil => intro _; rw [Zj.nods]; exact Nat.zero_le _
  | cons x l ih2 =>
   intro h
   rw [Zgy, List.map_cons, Zif]
   have h1 := h x (by simp)
   have h2 := ih2 fun y hy => h y (by simp [hy])
   omega
 have h1 := key _ ih
 rw [Zlj, Zj.cells_eq]
 simp only [ZcQ, ZpC]
 omega
theorem Zrv : ∀ l : List Zj, Zj.nods l ≤ Zif (l.map Zj.cells)
 | [] => by rw [Zj.nods]; exact Nat.zero_le _
 | x :: l => by
  rw [Zgy, List.map_cons, Zif]
  have h1 := Zxj x
  have h2 := Zrv l
  omega
theorem Zsp (t : Za) : t.vol ≤ ZcQ t.cells := by
 refine Za.ind (M := fun t => t.vol ≤ ZcQ t.cells) (fun v ih => ?_) t
 have key : ∀ l : List Za, (∀ x ∈ l, x.vol ≤ ZcQ x.cells) → Za.vols l ≤ Zif (l.map Za.cells) := by
  intro l
  induction l with
  | nil => intro _; rw [Za.vols]; exact Nat.zero_le _
  | cons x l ih2 =>
   intro h
   rw [ZiS, List.map_cons, Zif]
   have h1 := h x (by simp)
   have h2 := ih2 fun y hy => h y (by simp [hy])
   omega
 have h1 := key _ ih
 have h2 := Zrv v.fBound.fArgs
 rw [ZoU, Za.cells_eq, Zlj]
 simp only [ZcQ, ZpC]
 omega

theorem ZsL {W : World} (h : Lib.TabIs Tryz.prog W "internal/strconv.uint64pow10" .u64 Lib.pow10Tab) : ∀ x ∈ Zon, old W x.1 x.2.1 ∧ x.2.2 (W.cell? ⟨x.1, x.2.1, none⟩) := by
 have hg : Tryz.prog.globalNamed "internal/strconv.uint64pow10" = some 3 := by kernel_rfl
 unfold Lib.TabIs World.var? at h
 rw [hg] at h
 simp only [Option.bind_some] at h
 split at h
 case h_2 => cases h
 rename_i cs t f hc
 injection h with h
 have hlt : 3 < W.heap.size := by
  rcases Nat.lt_or_ge 3 W.heap.size with h1 | h1
  ·exact h1
  ·rw [Array.getElem?_eq_none h1] at hc; cases hc
 have hcell : ∀ i, W.cell? ⟨3, i, none⟩ = (Lib.pow10Tab[i]?).map fun z => Value.int .u64 z := fun i => by
  have e0 : ((Lib.pow10Tab.map fun z => Value.int .u64 z).toArray)[i]? = (Lib.pow10Tab.map fun z => Value.int .u64 z)[i]? := List.getElem?_toArray
  simp only [World.cell?, hc, Option.isSome_none, Bool.false_eq_true, if_false, h]
  rw [e0, List.getElem?_map]
 intro x hx
 rcases List.mem_cons.1 hx with rfl | hx
 ·refine ⟨hlt, ?_⟩
  show Zqm (W.cell? ⟨3, 20, none⟩)
  rw [hcell]; rfl
 ·obtain ⟨i, hi, rfl⟩ := List.mem_map.1 hx
  have hi := List.mem_range.1 hi
  refine ⟨hlt, ?_⟩
  show Zs0 i (W.cell? ⟨3, i, none⟩)
  rw [hcell, Lib.pow10Tab, List.getElem?_map, List.getElem?_range hi]
  rfl
theorem tab_third {W : World} {a b : String × DataW Unit} {r : List (String × DataW Unit)} (h : laidMet Tryz.prog (a :: b :: ("internal/strconv.uint64pow10", Lib.tabData .u64 Lib.pow10Tab) :: r) W) : Lib.TabIs Tryz.prog W "internal/strconv.uint64pow10" .u64 Lib.pow10Tab :=
 Lib.tabIs_of_head (g := 3) (t := 154) (e := 139) (n := 20) (by kernel_rfl) (by kernel_rfl) (by kernel_rfl) (by kernel_rfl) (by kernel_rfl) (by kernel_rfl) h.tail.tail
theorem globs0 {W : World} (h : Lib.TabIs Tryz.prog W "internal/strconv.uint64pow10" .u64 Lib.pow10Tab) (hr : ZdO = []) : Zju Tryz.prog W (old W) := fun x hx => ZsL h x (by
 have hx : x ∈ Zon ++ ZdO := hx
 rwa [hr, List.append_nil] at hx)

theorem Zu0 {P : Program} {W : World} {sp : Nat → Bool} {fuel t : Nat} {ms : Array (String × TypeId)} {nm : String} {d : DataW Unit} {p : List MemPlace} (hi : P.underlying t = some (.interface ms)) :
  ∀ cs : List Value, DataW.trod (fun _ => ()) P W 0 sp false fuel t cs = some (.iface nm d, p) → ∃ u v, cs = [.iface u v] := by
 intro cs h
 cases fuel with
 | zero => simp [DataW.trod] at h
 | succ fuel =>
  unfold DataW.trod at h
  rw [hi] at h
  split at h <;> first | (cases h; done) | (simp at h; done) | exact ⟨_, _, rfl⟩ | simp_all
theorem Zuu {P : Program} {n nm : String} {d : DataW Unit} {r : List (String × DataW Unit)} {W : World} {g ti : Nat} {ms : Array (String × TypeId)} (h : laidMet P ((n, .iface nm d) :: r) W) (hg : P.globalNamed n = some g)
  (ht : (P.globals[g]?).map (·.type) = some ti) (hi : P.underlying ti = some (.interface ms)) : ∃ u v, W.cell? ⟨g, 0, none⟩ = some (.iface u v) := by
 obtain ⟨ps, ⟨g', t, cs, fuel, p, q, h1, h2, h3, h4, h5, h6⟩, hn, hc⟩ := h
 obtain rfl := Option.some.inj (hg.symm.trans h1)
 obtain rfl := Option.some.inj (ht.symm.trans h2)
 obtain ⟨u, v, hcs⟩ := Zu0 hi cs.toList h4
 have := World.var?_cell hg h3 0
 refine ⟨u, v, ?_⟩
 rw [this, ← Array.getElem?_toList, hcs]; rfl
theorem ZqI {W : World} {g : Nat} {v : Value} (h : W.cell? ⟨g, 0, none⟩ = some v) : g < W.heap.size := by
 unfold World.cell? at h
 rcases Nat.lt_or_ge g W.heap.size with h1 | h1
 ·exact h1
 ·simp only [Array.getElem?_eq_none h1] at h; cases h
theorem globs_full {W : World} {a b c : String × DataW Unit} {n1 n2 : String} {d1 d2 : DataW Unit} {r : List (String × DataW Unit)} (h : Lib.TabIs Tryz.prog W "internal/strconv.uint64pow10" .u64 Lib.pow10Tab) (hS : W.ShapedOpen Tryz.prog)
  (hL : laidMet Tryz.prog (a :: b :: c :: ("strconv.ErrRange", .iface n1 d1) :: ("strconv.ErrSyntax", .iface n2 d2) :: r) W) : Zju Tryz.prog W (old W) := fun x hx => by
 have hx : x ∈ Zon ++ ZdO := hx
 rcases List.mem_append.1 hx with hx | hx
 ·exact ZsL h x hx
 ·unfold ZdO at hx
  simp only [List.mem_cons, List.not_mem_nil, or_false] at hx
  rcases hx with rfl | rfl | rfl
  ·obtain ⟨m, hm⟩ := cell_of_shapedOpen_int (zero := #[.int .i64 0]) (t := 3) hS (of_decide_eq_true (by kernel_rfl)) (by kernel_rfl) rfl (by kernel_rfl) (by kernel_rfl) Tryz.underlying3
   exact ⟨ZqI hm, m, hm⟩
  ·obtain ⟨u, v, he⟩ := Zuu (g := 1) (ti := 114) hL.tail.tail.tail.tail (by kernel_rfl) (by kernel_rfl) Tryz.underlying114
   exact ⟨ZqI he, _, he, .inr ⟨u, v, rfl⟩⟩
  ·obtain ⟨u, v, he⟩ := Zuu (g := 2) (ti := 114) hL.tail.tail.tail (by kernel_rfl) (by kernel_rfl) Tryz.underlying114
   exact ⟨ZqI he, _, he, .inr ⟨u, v, rfl⟩⟩

mutual
theorem Zp7 {H : Type} : ∀ d : DataW H, Rows.uptoBulk d = Zh0 d
 | .lit l => by cases l <;> simp [Rows.uptoBulk, Zh0]
 | .nil => by simp [Rows.uptoBulk, Zh0]
 | .ptr d => by simp [Rows.uptoBulk, Zh0, Zp7 d]
 | .slice es sp => by simp [Rows.uptoBulk, Zh0, Zmv es, Zmv sp]
 | .agg ps => by simp [Rows.uptoBulk, Zh0, Zmv ps]
 | .iface _ d => by simp [Rows.uptoBulk, Zh0, Zp7 d]
 | .map es => by simp [Rows.uptoBulk, Zh0, ZsM es]
 | .held _ => by simp [Rows.uptoBulk, Zh0]
theorem Zmv {H : Type} : ∀ l : List (DataW H), Rows.uptoBulkAll l = bulks l
 | [] => by simp [Rows.uptoBulkAll, bulks]
 | d :: l => by simp [Rows.uptoBulkAll, bulks, Zp7 d, Zmv l]
theorem ZsM {H : Type} : ∀ l : List (Lit × DataW H), Rows.uptoBulkEntries l = Zq4 l
 | [] => by simp [Rows.uptoBulkEntries, Zq4]
 | x :: l => by simp [Rows.uptoBulkEntries, Zq4, ZzC x, ZsM l]
theorem ZzC {H : Type} : ∀ x : Lit × DataW H, Rows.uptoBulkEntry x = ZzQ x
 | (l, d) => by cases l <;> simp [Rows.uptoBulkEntry, ZzQ, Zp7 d]
end
theorem upto_bulks {H : Type} {ds : List (DataW H)} (h : Rows.uptoSmall H ds = true) : bulks ds ≤ 1048576 := by
 have h := of_decide_eq_true h
 rwa [Zmv] at h

theorem unifyMatch_true {a b : List E} (ha : Sh tab 28 a) (hb : Sh tab 28 b) (hB : ZcQ a + ZcQ b ≤ 1048576) : CallsA Tryz.prog 8 [.agg a, .agg b] (fun r => r = .c none (.v (.bool true))) := by
 obtain ⟨a, rfl⟩ := ZwH ha
 obtain ⟨b, rfl⟩ := ZwH hb
 have h1 := Zsp a
 have h2 := Zsp b
 have h := ZjQ a b true (Zvs a b (by omega))
 unfold ZbJ.M at h
 rw [Za.cells_eq, Za.cells_eq]
 exact Zk.mono h fun d b h => h.1

end Go.Proofs.YtgbglhbdjambbaaGreatDoor
