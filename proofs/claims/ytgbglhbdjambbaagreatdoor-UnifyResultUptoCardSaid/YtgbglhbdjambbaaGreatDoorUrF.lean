/- Part 6 of the proof: the program's functions as Lean functions with their walks, and the plain law. It holds for every input, without conditions. -/
import Derived.Test.YtgbglhbdjambbaaGreatDoorUrA
import Derived.Test.YtgbglhbdjambbaaGreatDoorUrB
import Derived.Test.YtgbglhbdjambbaaGreatDoorUrC
import Derived.Test.YtgbglhbdjambbaaGreatDoorUrD
import Derived.Test.YtgbglhbdjambbaaGreatDoorUrE
set_option linter.unusedVariables false
set_option linter.unusedSimpArgs false
set_option maxRecDepth 100000
set_option maxHeartbeats 4000000
set_option synthInstance.maxHeartbeats 1000000
set_option synthInstance.maxSize 1000
namespace Go.Proofs.YtgbglhbdjambbaaGreatDoor
open Go Go.Am
mutual
def Zcn (t : Za) : Option (Za) :=
 ZaT t.fBound >>= fun r1 =>
 ZaK t 0 r1 ([]) t.fKids
 partial_fixpoint
def ZaK (t : Za) (Zfw : Nat) (r1 : (Zk)) (Ze7 : (List Za)) (Zce : (List Za)) : Option (Za) :=
 (match Zce with
 | x60 :: ZC0 =>
 Zcn x60 >>= fun r69 =>
 Z4 ((Ze7.length + ([r69]).length) * 72 ≤ 140737488355328) >>= fun _ =>
 ZaK t (Zfw + 1) r1 (Ze7 ++ ([r69])) ZC0
 | [] =>
 some (Za.mk t.fOp t.fName r1 Ze7))
 partial_fixpoint
end
def Zcn.M (t : Za) (r : Za) : Prop :=
 Zj Tryz.prog 95 [.agg [.v (.int .i64 t.fOp), .v (.string t.fName), .sl (t.fBound.fArgs.map Zk.cells), .sl (t.fKids.map Za.cells)]] [] (fun d b => d = .agg [.v (.int .i64 r.fOp), .v (.string r.fName), .sl (r.fBound.fArgs.map Zk.cells), .sl (r.fKids.map Za.cells)] ∧ b = [])
def ZaK.M (t : Za) (Zfw : Nat) (r1 : (Zk)) (Ze7 : (List Za)) (Zce : (List Za)) (r : Za) : Prop :=
 ∀ ZeP : List Za, t.fKids = ZeP ++ Zce → Zfw = ZeP.length → t.fKids.length ≤ maxLen → AWL Tryz.prog 28 (Code.sub (Zq Tryz.f95) [1, 1, 1, 1, 0, 1, 0, 0]) (Code.cont Tryz.prog 28 (Zq Tryz.f95) [1, 1, 1, 1, 0, 1, 0] (ZbV tab Tryz.f95.results (ZbX (.agg [.v (.int .i64 r.fOp), .v (.string r.fName), .sl (r.fBound.fArgs.map Zk.cells), .sl (r.fKids.map Za.cells)]) []))) ⟨[(1, .ptr 1 0), (2, .ptr 2 0), (13, .c none (.sl (t.fKids.map Za.cells))), (14, .c none (.v (.int .i64 ((t.fKids.length : Nat) : Int)))), (15, .c none (.v (.int .i64 ((Zfw : Nat) : Int))))], [(1, [(none, .v (.int .i64 t.fOp)), (none, .v (.string t.fName)), (none, .sl (r1.fArgs.map Zk.cells)), ((some (4053, 28)), .sl (Ze7.map Za.cells))]), (2, [(none, .v (.int .i64 0)), (none, .v (.string (ByteArray.mk #[]))), (none, .nils), (none, .nils)])]⟩
theorem ZkN : (∀ (t : Za), ∀ r, Zcn t = some r → Zcn.M t r) ∧ (∀ (t : Za) (Zfw : Nat) (r1 : (Zk)) (Ze7 : (List Za)) (Zce : (List Za)), ∀ r, ZaK t Zfw r1 Ze7 Zce = some r → ZaK.M t Zfw r1 Ze7 Zce r) := by
 refine Zcn.mutual_partial_correctness Zcn.M ZaK.M ?_ ?_
 ·intro types_copied_l1' Zg4 t r hF
  unfold Zcn.M
  refine en Tryz.func95 ?_
  refine AWP.seq ?_
  refine ns ?_
  refine AWP.seq ?_
  obtain ⟨r1, hr1, hF⟩ := bind_some hF
  refine ns ?_
  refine e3 ?_
  refine st ?_
  refine cm (Zj.weak (rn []) (ZnI t.fBound _ hr1) rfl (WS.mk (Zd (Zt (lc Zo)) Zc) Zb)) ?_
  refine st ?_
  refine AWP.seq ?_
  refine ns ?_
  refine AWP.seq ?_
  refine ns ?_
  refine AWP.seq ?_
  refine AWP.seq ?_
  refine ns ?_
  intro hlen36
  (try rw [List.length_map] at hlen36)
  (try rw [List.length_map])
  refine st ?_
  refine AWP.block ?_
  refine AWP.loop ?_
  refine AWL.weak (rn []) ?_ (Zg4 t 0 r1 ([]) t.fKids _ hF ([]) rfl rfl hlen36)
  exact (WS.mk (tp (tp (tc (tc (tc Zc))))) (Zf rfl (cc (cc (cc (Znn Zh)))) (Zf rfl (cc (cc (cc (cc Zh)))) Zb)))
 ·intro types_copied' types_copied_l1' Zp4 Zg4 t Zfw r1 Ze7 Zce r hF
  unfold ZaK.M
  intro ZeP Zkb Zj6 hlen36
  refine AWL.step ?_
  refine AWP.seq ?_
  refine ns ?_
  refine AWP.seq ?_
  refine nw ?_
  refine ZN Zkb Zj6 (fun x60 ZC0 ZEe ZCs ZGP => ?_) (fun ZEe => ?_)
  ·subst ZEe
   refine nw ?_
   refine AWP.seq ?_
   refine AWP.block ?_
   refine AWP.seq ?_
   refine nn ?_
   refine sr (Zab (f := Za.cells) (Za.cells_eq x60) ZCs) ?_
   refine st ?_
   obtain ⟨r69, ZCQ, hF⟩ := bind_some hF
   obtain ⟨ZGQ, hF⟩ := Zy hF
   refine nn ?_
   refine Or.inl (Exists.intro 5 (Exists.intro [[], [], [], [], []] (Exists.intro [([19, 20, 21, 22, 23], [], []), ([20, 21, 22, 23], [], []), ([19, 20, 21, 22, 23], [], []), ([19, 20, 22, 23], [], []), ([19, 20, 23], [], [])] (Exists.intro [19, 20, 21, 22, 23] (And.intro (by decide +kernel) ?_)))))
   refine dp ?_
   refine dp ?_
   refine dp ?_
   (refine st ?_; apply Exists.intro; apply Exists.intro; apply And.intro; (focus ((conv => whnf); refine Exists.intro [] ?_; (conv => whnf); refine And.intro rfl ?_; (conv => whnf); refine Zj.mono (Zj.weak (rn []) (Zp4 x60 _ ZCQ) rfl (WS.mk (Zd (Zt (lc (lc (lc (lc Zo))))) Zc) Zb)) ?_; rintro d b ⟨rfl, rfl⟩; exact And.intro rfl (And.intro rfl rfl))); apply And.intro; (focus exact rfl); (conv => whnf))
   refine de (Zbv (f := Za.cells) (ZdA (Za.cells_eq r69) (lc (lc (lc (lc Zo))))) (ZY (f := Za.cells))) ?_
   refine sa (fun l => ZbS l (fun x => Za.cells_len x)) ZGQ ?_
   refine Exists.intro _ (And.intro (WE.refl _) ?_)
   rw [← List.map_append]
   refine st ?_
   refine ns ?_
   refine AWL.weak (rn [(24, 4053)]) ?_ (Zg4 t (Zfw + 1) r1 (Ze7 ++ ([r69])) ZC0 _ hF (ZeP ++ [x60]) (by rw [Zkb]; simp) (by rw [Zj6]; simp) hlen36)
   exact (WS.mk (tp (tp (tc (tc (Zd (Zr (Zdf (ZV hlen36 ZGP))) Zc))))) (Zf rfl (cc (cc (cc (Ztr rfl (WE.refl _) Zh)))) (Zf rfl (cc (cc (cc (cc Zh)))) Zb)))
  ·subst ZEe
   refine nw ?_
   refine AWP.seq ?_
   refine ns ?_
   obtain rfl := Zg hF
   refine ns ?_
   refine Exists.intro [] ?_
   refine st ?_
   exact wx (WS.mk (Zd (Zt (lc (lc (lc (lc Zo))))) Zc) Zb)
theorem Zp8 : ∀ (t : Za), ∀ r, Zcn t = some r → Zcn.M t r := ZkN.1
theorem types_copied_l1_ok : ∀ (t : Za) (Zfw : Nat) (r1 : (Zk)) (Ze7 : (List Za)) (Zce : (List Za)), ∀ r, ZaK t Zfw r1 Ze7 Zce = some r → ZaK.M t Zfw r1 Ze7 Zce r := ZkN.2

def Zbm (t : Za) (s : Zu) : Option (Za) :=
 some t
def Zbm.M (t : Za) (s : Zu) (r : Za) : Prop :=
 AWP Tryz.prog 30 (Code.sub (Zq Tryz.f52) [1, 1]) (Code.cont Tryz.prog 30 (Zq Tryz.f52) [1, 1] (ZbV tab Tryz.f52.results (ZbX (.agg [.v (.int .i64 r.fOp), .v (.string r.fName), .sl (r.fBound.fArgs.map Zk.cells), .sl (r.fKids.map Za.cells)]) [(1000, [(none, .rs 1001 s.flist.length), (none, .rf 1002)]), (1001, [(none, .ob 90 (s.flist.map Ze.cells))]), (1002, [(none, .ob 109 (s.fat.map (Zeb c_S Zcu)))])]))) ⟨[(3, .ptr 3 0), (4, .ptr 4 0)], [(3, [(none, .v (.int .i64 t.fOp)), (none, .v (.string t.fName)), (none, .sl (t.fBound.fArgs.map Zk.cells)), (none, .sl (t.fKids.map Za.cells))]), (4, [(none, .v (.int .i64 0)), (none, .v (.string (ByteArray.mk #[]))), (none, .nils), (none, .nils)]), (1000, [(none, .rs 1001 s.flist.length), (none, .rf 1002)]), (1001, [(none, .ob 90 (s.flist.map Ze.cells))]), (1002, [(none, .ob 109 (s.fat.map (Zeb c_S Zcu)))])]⟩
theorem ZfM (t : Za) (s : Zu) (r : Za) (hF : Zbm t s = some r) : Zbm.M t s r := by
 unfold Zbm at hF
 unfold Zbm.M
 refine AWP.seq ?_
 refine ns ?_
 obtain rfl := Zg hF
 refine ns ?_
 refine Exists.intro [(1000, 1000), (1001, 1001), (1002, 1002)] ?_
 refine st ?_
 exact wx (WS.mk (Zd (Zt (lc (lc (lc (lc Zo))))) Zc) (Zf rfl (Ze2 (Zae (by first | exact rfl | simp only [List.length_set])) (cc Zh)) (Zf rfl (cc Zh) (Zf rfl (cc Zh) Zb))))

def ZaO (s : Zu) (t : Za) : Option (Za) :=
 if (t.fOp == 1) = true then
 ZeN s.fat 0 t.fName >>= fun r8 =>
 if r8.2 = true then
 (ixI s.flist r8.1) >>= fun x10 =>
 some x10.fType
 else
 Zbm t s
 else
 Zbm t s
def ZaO.M (s : Zu) (t : Za) (r : Za) : Prop :=
 Zj Tryz.prog 52 [.ptr 1000 0, .agg [.v (.int .i64 t.fOp), .v (.string t.fName), .sl (t.fBound.fArgs.map Zk.cells), .sl (t.fKids.map Za.cells)]] [(1000, [(none, .rs 1001 s.flist.length), (none, .rf 1002)]), (1001, [(none, .ob 90 (s.flist.map Ze.cells))]), (1002, [(none, .ob 109 (s.fat.map (Zeb c_S Zcu)))])] (fun d b => d = .agg [.v (.int .i64 r.fOp), .v (.string r.fName), .sl (r.fBound.fArgs.map Zk.cells), .sl (r.fKids.map Za.cells)] ∧ b = [(1000, [(none, .rs 1001 s.flist.length), (none, .rf 1002)]), (1001, [(none, .ob 90 (s.flist.map Ze.cells))]), (1002, [(none, .ob 109 (s.fat.map (Zeb c_S Zcu)))])])
theorem ZgQ (s : Zu) (t : Za) (r : Za) (hF : ZaO s t = some r) : ZaO.M s t r := by
 unfold ZaO at hF
 unfold ZaO.M
 refine en Tryz.func52 ?_
 refine AWP.seq ?_
 refine ns ?_
 refine AWP.seq ?_
 refine AWP.seq ?_
 refine ns ?_
 refine nw ?_
 refine Zi hF (fun hc6 hF => ?_) (fun hc6 hF => ?_)
 ·refine AWP.seq ?_
  obtain ⟨r8, hr8, hF⟩ := bind_some hF
  refine nn ?_
  refine Or.inl (Exists.intro 11 (Exists.intro [[], [], [], [], [], [], [], [], [], [], []] (Exists.intro [([11, 12, 13, 14, 15, 16, 17, 10, 18, 19, 5], [], []), ([12, 13, 14, 15, 16, 17, 10, 18, 19, 5], [], []), ([13, 14, 15, 16, 17, 10, 18, 19, 5], [], []), ([14, 15, 16, 17, 10, 18, 19, 5], [], []), ([11, 12, 13, 14, 15, 16, 17, 10, 18, 19, 5], [], []), ([11, 12, 13, 14, 16, 17, 10, 18, 19, 5], [], []), ([17, 10, 18, 19, 5], [], []), ([10, 18, 19, 5], [], []), ([18, 19, 5], [], []), ([18, 19, 5], [], []), ([19, 5], [], [])] (Exists.intro [11, 12, 13, 14, 15, 16, 17, 10, 18, 19, 5] (And.intro (by decide +kernel) ?_)))))
  refine dp ?_
  refine dp ?_
  refine dp ?_
  refine dp ?_
  refine dp ?_
  refine dp ?_
  (refine st ?_; apply Exists.intro; apply Exists.intro; apply And.intro; (focus (((repeat (first | ((conv => whnf); (with_reducible refine And.intro ?_ ?_); (focus (first | exact Eq.refl _ | exact trivial | (with_reducible assumption) | (with_reducible exact Int.natCast_nonneg _) | exact Nat.le_of_ble_eq_true (Eq.refl true) | exact Zd9 (Eq.refl _) (Eq.refl _) (Eq.refl _) | decide))))); (conv => whnf)) <;> (refine Zhy (m := s.fat) (k := t.fName) ZhI (ev := Zcu) hr8 rfl (fun x => Zna x) rfl rfl (lc Zo) ?_) <;> ((repeat (first | ((conv => whnf); (with_reducible refine And.intro ?_ ?_); (focus (first | exact Eq.refl _ | exact trivial | (with_reducible assumption) | (with_reducible exact Int.natCast_nonneg _) | exact Nat.le_of_ble_eq_true (Eq.refl true) | exact Zd9 (Eq.refl _) (Eq.refl _) (Eq.refl _) | decide))))); (conv => whnf)) <;> (exact rfl))); apply And.intro; (focus exact rfl); (conv => whnf))
  refine dp ?_
  refine dp ?_
  refine dp ?_
  refine dp ?_
  refine st ?_
  refine AWP.seq ?_
  refine ns ?_
  refine nw ?_
  refine Zi hF (fun hc9 hF => ?_) (fun hc9 hF => ?_)
  ·refine AWP.seq ?_
   obtain ⟨x10, ZFi, ZE5, hF⟩ := ZcJ hF
   refine ns ?_
   refine And.intro (Zpi ZFi ZE5) ?_
   refine st ?_
   refine sr (ZbW (f := Ze.cells) (Ze.cells_eq x10) ZE5) ?_
   refine st ?_
   obtain rfl := Zg hF
   refine ns ?_
   refine Exists.intro [(1000, 1000), (1001, 1001), (1002, 1002)] ?_
   refine st ?_
   exact wx (WS.mk (Zd (Zt (lc (lc (lc (lc Zo))))) Zc) (Zf rfl (Ze2 (Zae (by first | exact rfl | simp only [List.length_set])) (cc Zh)) (Zf rfl (cc Zh) (Zf rfl (cc Zh) Zb))))
  ·refine nw ?_
   refine AWP.weak (rn []) ?_ (ZfM t s _ hF)
   exact (WS.mk (tp (tp Zc)) (Zf rfl (cc (cc (cc (cc Zh)))) (Zf rfl (cc (cc (cc (cc Zh)))) (Zf rfl (Ze2 (Zae (by first | exact rfl | simp only [List.length_set])) (cc Zh)) (Zf rfl (cc Zh) (Zf rfl (cc Zh) Zb))))))
 ·refine nw ?_
  refine AWP.weak (rn []) ?_ (ZfM t s _ hF)
  exact (WS.mk (tp (tp Zc)) (Zf rfl (cc (cc (cc (cc Zh)))) (Zf rfl (cc (cc (cc (cc Zh)))) (Zf rfl (Ze2 (Zae (by first | exact rfl | simp only [List.length_set])) (cc Zh)) (Zf rfl (cc Zh) (Zf rfl (cc Zh) Zb))))))

def Za8 (s : (List Ze)) (name_ : ByteArray) (i_5 : Nat) (Zaw : (List Ze)) : Option (Int) :=
 (match Zaw with
 | x16 :: ZjT =>
 if (x16.fName.toList == name_.toList) = true then
 some ((i_5 : Nat) : Int)
 else
 Za8 s name_ (i_5 + 1) ZjT
 | [] =>
 some (-1))
 partial_fixpoint
def Za8.M (s : (List Ze)) (name_ : ByteArray) (i_5 : Nat) (Zaw : (List Ze)) (r : Int) : Prop :=
 ∀ Zdy : List Ze, s = Zdy ++ Zaw → i_5 = Zdy.length → AWL Tryz.prog 20 (Code.sub (Zq Tryz.f46) [1, 0, 1, 0, 0]) (Code.cont Tryz.prog 20 (Zq Tryz.f46) [1, 0, 1, 0] (ZbV tab Tryz.f46.results (ZbX (.c none (.v (.int .i64 r))) []))) ⟨[(0, .c none (.sl (s.map Ze.cells))), (1, .c none (.v (.string name_))), (5, .c none (.v (.int .i64 ((i_5 : Nat) : Int))))], []⟩
theorem Zl2 (s : (List Ze)) (name_ : ByteArray) (i_5 : Nat) (Zaw : (List Ze)) : ∀ r, Za8 s name_ i_5 Zaw = some r → Za8.M s name_ i_5 Zaw r := by
 refine Za8.partial_correctness s name_ (fun i_5 Zaw r => Za8.M s name_ i_5 Zaw r) ?_ i_5 Zaw
 intro lazycref18_find_l1' ZhE i_5 Zaw r hF
 have Zmj := fun (_s : (List Ze)) (_name_ : ByteArray) (i_5 : Nat) (Zaw : (List Ze)) => ZhE i_5 Zaw
 clear ZhE
 unfold Za8.M
 intro Zdy ZhB ZhA
 refine AWL.step ?_
 refine AWP.seq ?_
 refine AWP.seq ?_
 refine ns ?_
 intro hlen15
 (try rw [List.length_map] at hlen15)
 (try rw [List.length_map])
 refine st ?_
 refine nw ?_
 refine ZN ZhB ZhA (fun x16 ZjT ZjE Zrd Zr1 => ?_) (fun ZjE => ?_)
 ·subst ZjE
  refine nw ?_
  refine AWP.seq ?_
  refine AWP.block ?_
  refine AWP.seq ?_
  refine nn ?_
  refine sr (Zab (f := Ze.cells) (Ze.cells_eq x16) Zrd) ?_
  refine st ?_
  refine nw ?_
  refine Zi hF (fun Zta hF => ?_) (fun Zta hF => ?_)
  ·refine AWP.seq ?_
   refine ns ?_
   obtain rfl := Zg hF
   refine ns ?_
   refine Exists.intro [] ?_
   refine st ?_
   exact wx (WS.mk (tc Zc) Zb)
  ·refine nw ?_
   refine ns ?_
   refine AWL.weak (rn []) ?_ (Zmj s name_ (i_5 + 1) ZjT _ hF (Zdy ++ [x16]) (by rw [ZhB]; simp) (by rw [ZhA]; simp))
   exact (WS.mk (tc (tc (Zd (Zr (Zdf (ZV hlen15 Zr1))) Zc))) Zb)
 ·subst ZjE
  refine nw ?_
  refine AWP.seq ?_
  refine ns ?_
  obtain rfl := Zg hF
  refine ns ?_
  refine Exists.intro [] ?_
  refine st ?_
  exact wx (WS.mk (tc Zc) Zb)

def Zb5 (s : (List Ze)) (name_ : ByteArray) : Option (Int) :=
 Za8 s name_ 0 s
def Zb5.M (s : (List Ze)) (name_ : ByteArray) (r : Int) : Prop :=
 Zj Tryz.prog 46 [.c none (.sl (s.map Ze.cells)), .c none (.v (.string name_))] [] (fun d b => d = .c none (.v (.int .i64 r)) ∧ b = [])
theorem ZjN (s : (List Ze)) (name_ : ByteArray) (r : Int) (hF : Zb5 s name_ = some r) : Zb5.M s name_ r := by
 unfold Zb5 at hF
 unfold Zb5.M
 refine en Tryz.func46 ?_
 refine AWP.seq ?_
 refine ns ?_
 refine AWP.seq ?_
 refine AWP.seq ?_
 refine ns ?_
 refine AWP.block ?_
 refine AWP.loop ?_
 refine AWL.weak (rn []) ?_ (Zl2 s name_ 0 s _ hF ([]) rfl rfl)
 exact (WS.mk (tc (tc (tc Zc))) Zb)

def ZbO (t : Za) : Option (Za) :=
 some t
def ZbO.M (t : Za) (r : Za) : Prop :=
 AWP Tryz.prog 21 (Code.sub (Zq Tryz.f34) [1, 1]) (Code.cont Tryz.prog 21 (Zq Tryz.f34) [1, 1] (ZbV tab Tryz.f34.results (ZbX (.agg [.v (.int .i64 r.fOp), .v (.string r.fName), .sl (r.fBound.fArgs.map Zk.cells), .sl (r.fKids.map Za.cells)]) []))) ⟨[(3, .ptr 3 0), (4, .ptr 4 0)], [(3, [(none, .v (.int .i64 t.fOp)), (none, .v (.string t.fName)), (none, .sl (t.fBound.fArgs.map Zk.cells)), (none, .sl (t.fKids.map Za.cells))]), (4, [(none, .v (.int .i64 0)), (none, .v (.string (ByteArray.mk #[]))), (none, .nils), (none, .nils)])]⟩
theorem Zgo (t : Za) (r : Za) (hF : ZbO t = some r) : ZbO.M t r := by
 unfold ZbO at hF
 unfold ZbO.M
 refine AWP.seq ?_
 refine ns ?_
 obtain rfl := Zg hF
 refine ns ?_
 refine Exists.intro [] ?_
 refine st ?_
 exact wx (WS.mk (Zd (Zt (lc (lc (lc (lc Zo))))) Zc) Zb)

def Zbi (s : (List Ze)) (t : Za) : Option (Za) :=
 if (t.fOp == 1) = true then
 Zb5 s t.fName >>= fun r6 =>
 if (decide (r6 ≥ 0)) = true then
 (ixI s r6) >>= fun x8 =>
 some x8.fType
 else
 ZbO t
 else
 ZbO t
def Zbi.M (s : (List Ze)) (t : Za) (r : Za) : Prop :=
 Zj Tryz.prog 34 [.c none (.sl (s.map Ze.cells)), .agg [.v (.int .i64 t.fOp), .v (.string t.fName), .sl (t.fBound.fArgs.map Zk.cells), .sl (t.fKids.map Za.cells)]] [] (fun d b => d = .agg [.v (.int .i64 r.fOp), .v (.string r.fName), .sl (r.fBound.fArgs.map Zk.cells), .sl (r.fKids.map Za.cells)] ∧ b = [])
theorem ZhO (s : (List Ze)) (t : Za) (r : Za) (hF : Zbi s t = some r) : Zbi.M s t r := by
 unfold Zbi at hF
 unfold Zbi.M
 refine en Tryz.func34 ?_
 refine AWP.seq ?_
 refine ns ?_
 refine AWP.seq ?_
 refine AWP.seq ?_
 refine ns ?_
 refine nw ?_
 refine Zi hF (fun hc5 hF => ?_) (fun hc5 hF => ?_)
 ·refine AWP.seq ?_
  obtain ⟨r6, hr6, hF⟩ := bind_some hF
  refine ns ?_
  refine e3 ?_
  refine st ?_
  refine cm (Zj.weak (rn []) (ZjN s t.fName _ hr6) rfl (WS.mk (tc (tc Zc)) Zb)) ?_
  refine st ?_
  refine AWP.seq ?_
  refine ns ?_
  refine nw ?_
  refine Zi hF (fun hc7 hF => ?_) (fun hc7 hF => ?_)
  ·refine AWP.seq ?_
   obtain ⟨x8, hx80, hx8, hF⟩ := ZcJ hF
   refine nn ?_
   refine sr (ZbW (f := Ze.cells) (Ze.cells_eq x8) hx8) ?_
   refine st ?_
   obtain rfl := Zg hF
   refine ns ?_
   refine Exists.intro [] ?_
   refine st ?_
   exact wx (WS.mk (Zd (Zt (lc (lc (lc (lc Zo))))) Zc) Zb)
  ·refine nw ?_
   refine AWP.weak (rn []) ?_ (Zgo t _ hF)
   exact (WS.mk (tp (tp Zc)) (Zf rfl (cc (cc (cc (cc Zh)))) (Zf rfl (cc (cc (cc (cc Zh)))) Zb)))
 ·refine nw ?_
  refine AWP.weak (rn []) ?_ (Zgo t _ hF)
  exact (WS.mk (tp (tp Zc)) (Zf rfl (cc (cc (cc (cc Zh)))) (Zf rfl (cc (cc (cc (cc Zh)))) Zb)))

def ZaA (s : (List ByteArray)) (v : ByteArray) (x_8 : Nat) (ZbB : (List ByteArray)) : Option (Int) :=
 (match ZbB with
 | x11 :: ZlC =>
 if (v.toList == x11.toList) = true then
 some ((x_8 : Nat) : Int)
 else
 ZaA s v (x_8 + 1) ZlC
 | [] =>
 some (-1))
 partial_fixpoint
def ZaA.M (s : (List ByteArray)) (v : ByteArray) (x_8 : Nat) (ZbB : (List ByteArray)) (r : Int) : Prop :=
 ∀ Zeh : List ByteArray, s = Zeh ++ ZbB → x_8 = Zeh.length → s.length ≤ maxLen → AWL Tryz.prog 19 (Code.sub (Zq Tryz.f123) [1, 0, 1, 0, 0]) (Code.cont Tryz.prog 19 (Zq Tryz.f123) [1, 0, 1, 0] (ZbV tab Tryz.f123.results (ZbX (.c none (.v (.int .i64 r))) []))) ⟨[(0, .c none (.sl (s.map c_S))), (1, .c none (.v (.string v))), (7, .c none (.v (.int .i64 ((s.length : Nat) : Int)))), (8, .c none (.v (.int .i64 ((x_8 : Nat) : Int))))], []⟩
theorem Zj1 (s : (List ByteArray)) (v : ByteArray) (x_8 : Nat) (ZbB : (List ByteArray)) : ∀ r, ZaA s v x_8 ZbB = some r → ZaA.M s v x_8 ZbB r := by
 refine ZaA.partial_correctness s v (fun x_8 ZbB r => ZaA.M s v x_8 ZbB r) ?_ x_8 ZbB
 intro slices_Index_string_l1' Zf5 x_8 ZbB r hF
 have Zj4 := fun (_s : (List ByteArray)) (_v : ByteArray) (x_8 : Nat) (ZbB : (List ByteArray)) => Zf5 x_8 ZbB
 clear Zf5
 unfold ZaA.M
 intro Zeh ZjS ZjF hlen1
 refine AWL.step ?_
 refine AWP.seq ?_
 refine ns ?_
 refine AWP.seq ?_
 refine nw ?_
 refine ZN ZjS ZjF (fun x11 ZlC Zlr Ztt Ztc => ?_) (fun Zlr => ?_)
 ·subst Zlr
  refine nw ?_
  refine AWP.seq ?_
  refine AWP.block ?_
  refine AWP.seq ?_
  refine ns ?_
  refine AWP.seq ?_
  refine nn ?_
  refine sr (Zab (f := c_S) rfl Ztt) ?_
  refine st ?_
  refine nw ?_
  refine Zi hF (fun Zdl hF => ?_) (fun Zdl hF => ?_)
  ·refine AWP.seq ?_
   refine ns ?_
   obtain rfl := Zg hF
   refine ns ?_
   refine Exists.intro [] ?_
   refine st ?_
   exact wx (WS.mk (tc Zc) Zb)
  ·refine nw ?_
   refine ns ?_
   refine AWL.weak (rn []) ?_ (Zj4 s v (x_8 + 1) ZlC _ hF (Zeh ++ [x11]) (by rw [ZjS]; simp) (by rw [ZjF]; simp) hlen1)
   exact (WS.mk (tc (tc (tc (Zd (Zr (Zdf (ZV hlen1 Ztc))) Zc)))) Zb)
 ·subst Zlr
  refine nw ?_
  refine AWP.seq ?_
  refine ns ?_
  obtain rfl := Zg hF
  refine ns ?_
  refine Exists.intro [] ?_
  refine st ?_
  exact wx (WS.mk (tc Zc) Zb)

def Zda (s : (List ByteArray)) (v : ByteArray) : Option (Int) :=
 ZaA s v 0 s
def Zda.M (s : (List ByteArray)) (v : ByteArray) (r : Int) : Prop :=
 Zj Tryz.prog 123 [.c none (.sl (s.map c_S)), .c none (.v (.string v))] [] (fun d b => d = .c none (.v (.int .i64 r)) ∧ b = [])
theorem Zlq (s : (List ByteArray)) (v : ByteArray) (r : Int) (hF : Zda s v = some r) : Zda.M s v r := by
 unfold Zda at hF
 unfold Zda.M
 refine en Tryz.func123 ?_
 refine AWP.seq ?_
 refine ns ?_
 refine AWP.seq ?_
 refine AWP.seq ?_
 refine ns ?_
 intro hlen1
 (try rw [List.length_map] at hlen1)
 (try rw [List.length_map])
 refine st ?_
 refine AWP.block ?_
 refine AWP.loop ?_
 refine AWL.weak (rn []) ?_ (Zj1 s v 0 s _ hF ([]) rfl rfl hlen1)
 exact (WS.mk (tc (tc (tc (tc Zc)))) Zb)

def Zas (s : (List ByteArray)) (v : ByteArray) : Option (Bool) :=
 Zda s v >>= fun r1 =>
 some (decide (r1 ≥ 0))
def Zas.M (s : (List ByteArray)) (v : ByteArray) (r : Bool) : Prop :=
 Zj Tryz.prog 97 [.c none (.sl (s.map c_S)), .c none (.v (.string v))] [] (fun d b => d = .c none (.v (.bool r)) ∧ b = [])
theorem ZeK (s : (List ByteArray)) (v : ByteArray) (r : Bool) (hF : Zas s v = some r) : Zas.M s v r := by
 unfold Zas at hF
 unfold Zas.M
 refine en Tryz.func97 ?_
 refine AWP.seq ?_
 refine ns ?_
 refine AWP.seq ?_
 obtain ⟨r1, hr1, hF⟩ := bind_some hF
 refine ns ?_
 refine e3 ?_
 refine st ?_
 refine cm (Zj.weak (rn []) (Zlq s v _ hr1) rfl (WS.mk (tc (tc Zc)) Zb)) ?_
 refine st ?_
 obtain rfl := Zg hF
 refine ns ?_
 refine Exists.intro [] ?_
 refine st ?_
 exact wx (WS.mk (tc Zc) Zb)

mutual
def Zc8 (l : (List ByteArray)) (Z3 : (List ByteArray)) (t : Za) : Option ((List ByteArray)) :=
 if (t.fOp == 1) = true then
 Zas Z3 t.fName >>= fun r27 =>
 (if (!r27) = true then Zas l t.fName >>= fun r28 =>
 some (!r28) else some false) >>= fun c29 =>
 if c29 = true then
 Z4 ((l.length + ([t.fName]).length) * 16 ≤ 140737488355328) >>= fun _ =>
 Zbr (l ++ ([t.fName])) Z3 t
 else
 Zbr l Z3 t
 else
 if (t.fOp == 4) = true then
 ZdI Z3 >>= fun r36 =>
 Z4 ((r36.length + ([t.fName]).length) * 16 ≤ 140737488355328) >>= fun _ =>
 Zbr l (r36 ++ ([t.fName])) t
 else
 Zbr l Z3 t
 partial_fixpoint
def Zbr (l_0 : (List ByteArray)) (ZA : (List ByteArray)) (t : Za) : Option ((List ByteArray)) :=
 Zbp l_0 ZA t 0 t.fKids
 partial_fixpoint
def Zbp (l_0 : (List ByteArray)) (ZA : (List ByteArray)) (t : Za) (ZlO : Nat) (Zir : (List Za)) : Option ((List ByteArray)) :=
 (match Zir with
 | x22 :: Zv5 =>
 Zc8 l_0 ZA x22 >>= fun r25 =>
 Zbp r25 ZA t (ZlO + 1) Zv5
 | [] =>
 some l_0)
 partial_fixpoint
end
def Zc8.M (l : (List ByteArray)) (Z3 : (List ByteArray)) (t : Za) (r : (List ByteArray)) : Prop :=
 Zj Tryz.prog 96 [.c (some (0, 9)) (.sl (l.map c_S)), .c none (.sl (Z3.map c_S)), .agg [.v (.int .i64 t.fOp), .v (.string t.fName), .sl (t.fBound.fArgs.map Zk.cells), .sl (t.fKids.map Za.cells)]] [] (fun d b => d = .c (some (0, 9)) (.sl (r.map c_S)) ∧ b = [])
def Zbr.M (l_0 : (List ByteArray)) (ZA : (List ByteArray)) (t : Za) (r : (List ByteArray)) : Prop :=
 AWP Tryz.prog 51 (Code.sub (Zq Tryz.f96) [1, 1]) (Code.cont Tryz.prog 51 (Zq Tryz.f96) [1, 1] (ZbV tab Tryz.f96.results (ZbX (.c (some (0, 9)) (.sl (r.map c_S))) []))) ⟨[(0, .c (some (0, 9)) (.sl (l_0.map c_S))), (1, .c none (.sl (ZA.map c_S))), (5, .ptr 5 0)], [(5, [(none, .v (.int .i64 t.fOp)), (none, .v (.string t.fName)), (none, .sl (t.fBound.fArgs.map Zk.cells)), (none, .sl (t.fKids.map Za.cells))])]⟩
def Zbp.M (l_0 : (List ByteArray)) (ZA : (List ByteArray)) (t : Za) (ZlO : Nat) (Zir : (List Za)) (r : (List ByteArray)) : Prop :=
 ∀ Zoy : List Za, t.fKids = Zoy ++ Zir → ZlO = Zoy.length → t.fKids.length ≤ maxLen → AWL Tryz.prog 51 (Code.sub (Zq Tryz.f96) [1, 1, 0, 1, 0, 0]) (Code.cont Tryz.prog 51 (Zq Tryz.f96) [1, 1, 0, 1, 0] (ZbV tab Tryz.f96.results (ZbX (.c (some (0, 9)) (.sl (r.map c_S))) []))) ⟨[(0, .c (some (0, 9)) (.sl (l_0.map c_S))), (1, .c none (.sl (ZA.map c_S))), (39, .c none (.sl (t.fKids.map Za.cells))), (40, .c none (.v (.int .i64 ((t.fKids.length : Nat) : Int)))), (41, .c none (.v (.int .i64 ((ZlO : Nat) : Int))))], []⟩
theorem Zjx : (∀ (l : (List ByteArray)) (Z3 : (List ByteArray)) (t : Za), ∀ r, Zc8 l Z3 t = some r → Zc8.M l Z3 t r) ∧ (∀ (l_0 : (List ByteArray)) (ZA : (List ByteArray)) (t : Za), ∀ r, Zbr l_0 ZA t = some r → Zbr.M l_0 ZA t r) ∧ (∀ (l_0 : (List ByteArray)) (ZA : (List ByteArray)) (t : Za) (ZlO : Nat) (Zir : (List Za)), ∀ r, Zbp l_0 ZA t ZlO Zir = some r → Zbp.M l_0 ZA t ZlO Zir r) := by
 refine Zc8.mutual_partial_correctness Zc8.M Zbr.M Zbp.M ?_ ?_ ?_
 ·intro types_free_k1' Zgh l Z3 t r hF
  unfold Zc8.M
  refine en Tryz.func96 ?_
  refine AWP.seq ?_
  refine ns ?_
  refine AWP.seq ?_
  refine AWP.seq ?_
  refine ns ?_
  refine AWP.block ?_
  refine AWP.seq ?_
  refine ns ?_
  refine nw ?_
  refine Zi hF (fun Zlc hF => ?_) (fun Zlc hF => ?_)
  ·refine AWP.seq ?_
   obtain ⟨r27, ZIt, hF⟩ := bind_some hF
   obtain ⟨c29, ZoI, hF⟩ := bind_some hF
   refine AWP.cutN (fun T => ∃ r, WS r T ⟨[(0, .c (some (0, 9)) (.sl (l.map c_S))), (1, .c none (.sl (Z3.map c_S))), (5, .ptr 5 0), (24, .c none (.v (.bool c29)))], [(5, [(none, .v (.int .i64 t.fOp)), (none, .v (.string t.fName)), (none, .sl (t.fBound.fArgs.map Zk.cells)), (none, .sl (t.fKids.map Za.cells))])]⟩) ?_ (fun T hw => ?_)
   ·refine ns ?_
    refine e3 ?_
    refine st ?_
    refine cm (Zj.weak (rn []) (ZeK Z3 t.fName _ ZIt) rfl (WS.mk (tc (tc Zc)) Zb)) ?_
    refine st ?_
    refine Zm true (fun Zpp => ?_) (fun Zpp => ?_)
    ·have ZoI := ift Zpp ZoI
     obtain ⟨r28, ZB5, ZoI⟩ := bind_some ZoI
     (conv => whnf)
     refine st ?_
     refine Exists.intro [0] (Exists.intro [] (Exists.intro [] ?_))
     refine st ?_
     refine cm (Zj.weak (rn []) (ZeK l t.fName _ ZB5) rfl (WS.mk (tc (tc Zc)) Zb)) ?_
     refine st ?_
     obtain rfl := Zg ZoI
     refine st ?_
     exact Exists.intro (rn [(0, 0)]) (WS.mk (Zd (Zak rfl (WE.refl _)) (tc (tp (Zd (Zr (web Zpp)) Zc)))) (Zf rfl (cc (cc (cc (cc Zh)))) Zb))
    ·have ZoI := ife Zpp ZoI
     (conv => whnf)
     obtain rfl := Zg ZoI
     refine st ?_
     exact Exists.intro (rn [(0, 0)]) (WS.mk (Zd (Zak rfl (WE.refl _)) (tc (tp (Zd (Zr (web Zpp)) Zc)))) (Zf rfl (cc (cc (cc (cc Zh)))) Zb))
   obtain ⟨r0, hw⟩ := hw
   (conv => whnf)
   refine AWP.weak r0 hw ?_
   refine nw ?_
   refine Zi hF (fun ZyI hF => ?_) (fun ZyI hF => ?_)
   ·obtain ⟨ZEh, hF⟩ := Zy hF
    refine ns ?_
    refine Exists.intro _ (And.intro (Zbv (f := c_S) (lc Zo) (ZY (f := c_S))) ?_)
    refine sa (fun l => ZbS l (fun x => ZfN x)) ZEh ?_
    refine Exists.intro _ (And.intro (WE.refl _) ?_)
    rw [← List.map_append]
    refine st ?_
    refine AWP.weak (rn [(29, 0)]) ?_ (Zgh (l ++ ([t.fName])) Z3 t _ hF)
    exact (WS.mk (Zd (Zak rfl (WE.refl _)) (tc (tp Zc))) (Zf rfl (cc (cc (cc (cc Zh)))) Zb))
   ·refine nw ?_
    refine AWP.weak (rn [(0, 0)]) ?_ (Zgh l Z3 t _ hF)
    exact (WS.mk (Zd (Zak rfl (WE.refl _)) (tc (tp Zc))) (Zf rfl (cc (cc (cc (cc Zh)))) Zb))
  ·refine AWP.seq ?_
   refine ns ?_
   refine nw ?_
   refine Zi hF (fun Zpu hF => ?_) (fun Zpu hF => ?_)
   ·obtain ⟨r36, ZG4, hF⟩ := bind_some hF
    obtain ⟨ZG7, hF⟩ := Zy hF
    refine nn ?_
    refine Or.inr (Exists.intro [2, 3, 4] (Exists.intro [[34, 35, 36], [35, 36], [36]] (Exists.intro [5] (Exists.intro [5, 34, 35, 36] (Exists.intro [34, 35, 36] (Exists.intro [0, 1, 5, 6] (And.intro (by decide +kernel) ?_)))))))
    refine dp ?_
    refine dp ?_
    refine de (Zbv (f := c_S) (lc Zo) (ZY (f := c_S))) ?_
    refine st ?_
    refine e3 ?_
    refine st ?_
    refine cm (Zj.weak (rn []) (Zlm Z3 _ ZG4) rfl (WS.mk (tc Zc) Zb)) ?_
    refine st ?_
    refine sa (fun l => ZbS l (fun x => ZfN x)) ZG7 ?_
    refine Exists.intro _ (And.intro (WE.refl _) ?_)
    rw [← List.map_append]
    refine st ?_
    refine AWP.weak (rn [(0, 0)]) ?_ (Zgh l (r36 ++ ([t.fName])) t _ hF)
    exact (WS.mk (Zd (Zak rfl (WE.refl _)) (tc (tp Zc))) (Zf rfl (cc (cc (cc (cc Zh)))) Zb))
   ·refine nw ?_
    refine AWP.weak (rn [(0, 0)]) ?_ (Zgh l Z3 t _ hF)
    exact (WS.mk (Zd (Zak rfl (WE.refl _)) (tc (tp Zc))) (Zf rfl (cc (cc (cc (cc Zh)))) Zb))
 ·intro types_free_l2' Zii l_0 ZA t r hF
  unfold Zbr.M
  refine AWP.seq ?_
  refine AWP.seq ?_
  refine ns ?_
  intro hlen12
  (try rw [List.length_map] at hlen12)
  (try rw [List.length_map])
  refine st ?_
  refine AWP.block ?_
  refine AWP.loop ?_
  refine AWL.weak (rn [(0, 0)]) ?_ (Zii l_0 ZA t 0 t.fKids _ hF ([]) rfl rfl hlen12)
  exact (WS.mk (Zd (Zak rfl (WE.refl _)) (tc (tc (tc (tc Zc))))) Zb)
 ·intro types_free' types_free_l2' Zr7 Zii l_0 ZA t ZlO Zir r hF
  unfold Zbp.M
  intro Zoy ZwV Zxn hlen12
  refine AWL.step ?_
  refine AWP.seq ?_
  refine ns ?_
  refine AWP.seq ?_
  refine nw ?_
  refine ZN ZwV Zxn (fun x22 Zv5 Zwe ZBk ZD2 => ?_) (fun Zwe => ?_)
  ·subst Zwe
   refine nw ?_
   refine AWP.seq ?_
   refine AWP.block ?_
   refine AWP.seq ?_
   refine nn ?_
   refine sr (Zab (f := Za.cells) (Za.cells_eq x22) ZBk) ?_
   refine st ?_
   obtain ⟨r25, ZC6, hF⟩ := bind_some hF
   refine ns ?_
   refine e3 ?_
   refine st ?_
   refine cm (Zj.weak (rn [(0, 0)]) (Zr7 l_0 ZA x22 _ ZC6) rfl (WS.mk (Zd (Zak rfl (WE.refl _)) (tc (Zd (Zt (lc (lc (lc (lc Zo))))) Zc))) Zb)) ?_
   refine st ?_
   refine ns ?_
   refine AWL.weak (rn [(48, 0)]) ?_ (Zii r25 ZA t (ZlO + 1) Zv5 _ hF (Zoy ++ [x22]) (by rw [ZwV]; simp) (by rw [Zxn]; simp) hlen12)
   exact (WS.mk (Zd (Zak rfl (WE.refl _)) (tc (tc (tc (Zd (Zr (Zdf (ZV hlen12 ZD2))) Zc))))) Zb)
  ·subst Zwe
   refine nw ?_
   refine AWP.seq ?_
   refine ns ?_
   obtain rfl := Zg hF
   refine ns ?_
   refine Exists.intro [] ?_
   refine st ?_
   exact Exists.intro (rn [(0, 0)]) (WS.mk (Zd (Zak rfl (WE.refl _)) Zc) Zb)
theorem Zkn : ∀ (l : (List ByteArray)) (Z3 : (List ByteArray)) (t : Za), ∀ r, Zc8 l Z3 t = some r → Zc8.M l Z3 t r := Zjx.1
theorem types_free_k1_ok : ∀ (l_0 : (List ByteArray)) (ZA : (List ByteArray)) (t : Za), ∀ r, Zbr l_0 ZA t = some r → Zbr.M l_0 ZA t r := Zjx.2.1
theorem types_free_l2_ok : ∀ (l_0 : (List ByteArray)) (ZA : (List ByteArray)) (t : Za) (ZlO : Nat) (Zir : (List Za)), ∀ r, Zbp l_0 ZA t ZlO Zir = some r → Zbp.M l_0 ZA t ZlO Zir r := Zjx.2.2

def ZeZ (t : Za) : Option ((List ByteArray)) :=
 Zcj t >>= fun r3 =>
 if (r3 != 0) = true then
 some ([] : List ByteArray)
 else
 Zc8 ([] : List ByteArray) ([] : List ByteArray) t >>= fun r5 =>
 some r5
def ZeZ.M (t : Za) (r : (List ByteArray)) : Prop :=
 Zj Tryz.prog 105 [.agg [.v (.int .i64 t.fOp), .v (.string t.fName), .sl (t.fBound.fArgs.map Zk.cells), .sl (t.fKids.map Za.cells)]] [] (fun d b => d = .c (some (0, 9)) (.sl (r.map c_S)) ∧ b = [])
theorem ZnV (t : Za) (r : (List ByteArray)) (hF : ZeZ t = some r) : ZeZ.M t r := by
 unfold ZeZ at hF
 unfold ZeZ.M
 refine en Tryz.func105 ?_
 refine AWP.seq ?_
 refine ns ?_
 refine AWP.seq ?_
 refine AWP.seq ?_
 obtain ⟨r3, hr3, hF⟩ := bind_some hF
 refine ns ?_
 refine e3 ?_
 refine st ?_
 refine cm (Zj.weak (rn []) (Zfb t _ hr3) rfl (WS.mk (Zd (Zt (lc (lc (lc (lc Zo))))) Zc) Zb)) ?_
 refine st ?_
 refine nw ?_
 refine Zi hF (fun hc4 hF => ?_) (fun hc4 hF => ?_)
 ·refine AWP.seq ?_
  refine ns ?_
  obtain rfl := Zg hF
  refine ns ?_
  refine Exists.intro [] ?_
  refine st ?_
  exact wx (WS.mk (Zd Zju Zc) Zb)
 ·refine nw ?_
  refine AWP.seq ?_
  obtain ⟨r5, hr5, hF⟩ := bind_some hF
  refine ns ?_
  refine e3 ?_
  refine st ?_
  refine cm (Zj.weak (rn []) (Zkn ([] : List ByteArray) ([] : List ByteArray) t _ hr5) rfl (WS.mk (Zd Zju (Zd (Zr WE.nil) (Zd (Zt (lc (lc (lc (lc Zo))))) Zc))) Zb)) ?_
  refine st ?_
  obtain rfl := Zg hF
  refine ns ?_
  refine Exists.intro [] ?_
  refine st ?_
  exact Exists.intro (rn [(7, 0)]) (WS.mk (Zd (Zak rfl (WE.refl _)) Zc) Zb)

def ZaB (v : ByteArray) (r1 : ((List ByteArray))) (Zod : Nat) (s : Zu) (ZgV : (List ByteArray)) : Option (Bool) :=
 (match ZgV with
 | x26 :: ZD8 =>
 if (x26.toList == v.toList) = true then
 some true
 else
 ZeN s.fat 0 x26 >>= fun r31 =>
 (if r31.2 = true then (ixI s.flist r31.1) >>= fun x32 =>
 ZeZ x32.fType >>= fun r33 =>
 Zas r33 v >>= fun r34 =>
 some r34 else some false) >>= fun c35 =>
 if c35 = true then
 some true
 else
 ZaB v r1 (Zod + 1) s ZD8
 | [] =>
 some false)
 partial_fixpoint
def ZaB.M (v : ByteArray) (r1 : ((List ByteArray))) (Zod : Nat) (s : Zu) (ZgV : (List ByteArray)) (r : Bool) : Prop :=
 ∀ ZoV : List ByteArray, r1 = ZoV ++ ZgV → Zod = ZoV.length → r1.length ≤ maxLen → AWL Tryz.prog 45 (Code.sub (Zq Tryz.f80) [1, 0, 1, 0, 0]) (Code.cont Tryz.prog 45 (Zq Tryz.f80) [1, 0, 1, 0] (ZbV tab Tryz.f80.results (ZbX (.c none (.v (.bool r))) [(1000, [(none, .rs 1001 s.flist.length), (none, .rf 1002)]), (1001, [(none, .ob 90 (s.flist.map Ze.cells))]), (1002, [(none, .ob 109 (s.fat.map (Zeb c_S Zcu)))])]))) ⟨[(0, .ptr 1000 0), (1, .c none (.v (.string v))), (12, .c (some (12, 9)) (.sl (r1.map c_S))), (13, .c none (.v (.int .i64 ((r1.length : Nat) : Int)))), (14, .c none (.v (.int .i64 ((Zod : Nat) : Int))))], [(1000, [(none, .rs 1001 s.flist.length), (none, .rf 1002)]), (1001, [(none, .ob 90 (s.flist.map Ze.cells))]), (1002, [(none, .ob 109 (s.fat.map (Zeb c_S Zcu)))])]⟩
theorem ZjX (v : ByteArray) (r1 : ((List ByteArray))) (Zod : Nat) (s : Zu) (ZgV : (List ByteArray)) : ∀ r, ZaB v r1 Zod s ZgV = some r → ZaB.M v r1 Zod s ZgV r := by
 refine ZaB.partial_correctness v r1 s (fun Zod ZgV r => ZaB.M v r1 Zod s ZgV r) ?_ Zod ZgV
 intro unify_solver_occurs_l1' ZfY Zod ZgV r hF
 have Zj2 := fun (_v : ByteArray) (_r1 : ((List ByteArray))) (Zod : Nat) (_s : Zu) (ZgV : (List ByteArray)) => ZfY Zod ZgV
 clear ZfY
 unfold ZaB.M
 intro ZoV ZwB ZwP hlen2
 refine AWL.step ?_
 refine AWP.seq ?_
 refine ns ?_
 refine AWP.seq ?_
 refine nw ?_
 refine ZN ZwB ZwP (fun x26 ZD8 ZEi ZH5 ZHW => ?_) (fun ZEi => ?_)
 ·subst ZEi
  refine nw ?_
  refine AWP.seq ?_
  refine AWP.block ?_
  refine AWP.seq ?_
  refine nn ?_
  refine sr (Zab (f := c_S) rfl ZH5) ?_
  refine st ?_
  refine AWP.seq ?_
  refine AWP.seq ?_
  refine ns ?_
  refine nw ?_
  refine Zi hF (fun Zpp hF => ?_) (fun Zpp hF => ?_)
  ·refine AWP.seq ?_
   refine ns ?_
   obtain rfl := Zg hF
   refine ns ?_
   refine Exists.intro [(1000, 1000), (1001, 1001), (1002, 1002)] ?_
   refine st ?_
   exact wx (WS.mk (tc Zc) (Zf rfl (Ze2 (Zae (by first | exact rfl | simp only [List.length_set])) (cc Zh)) (Zf rfl (cc Zh) (Zf rfl (cc Zh) Zb))))
  ·refine nw ?_
   refine AWP.seq ?_
   obtain ⟨r31, ZB9, hF⟩ := bind_some hF
   refine ns ?_
   refine Zhy (m := s.fat) (k := x26) ZhI (ev := Zcu) ZB9 rfl (fun x => Zna x) rfl rfl (lc Zo) ?_
   refine st ?_
   refine AWP.seq ?_
   obtain ⟨c35, ZnH, hF⟩ := bind_some hF
   refine AWP.cutN (fun T => ∃ r, WS r T ⟨[(0, .ptr 1000 0), (1, .c none (.v (.string v))), (12, .c (some (12, 9)) (.sl (r1.map c_S))), (13, .c none (.v (.int .i64 ((r1.length : Nat) : Int)))), (14, .c none (.v (.int .i64 ((Zod : Nat) : Int)))), (43, .c none (.v (.bool c35)))], [(1000, [(none, .rs 1001 s.flist.length), (none, .rf 1002)]), (1001, [(none, .ob 90 (s.flist.map Ze.cells))]), (1002, [(none, .ob 109 (s.fat.map (Zeb c_S Zcu)))])]⟩) ?_ (fun T hw => ?_)
   ·refine ns ?_
    refine Zm true (fun ZkF => ?_) (fun ZkF => ?_)
    ·have ZnH := ift ZkF ZnH
     obtain ⟨x32, ZFP, ZGn, ZnH⟩ := ZcJ ZnH
     obtain ⟨r33, ZHp, ZnH⟩ := bind_some ZnH
     obtain ⟨r34, ZEg, ZnH⟩ := bind_some ZnH
     (conv => whnf)
     refine st ?_
     refine And.intro (Zpi ZFP ZGn) ?_
     refine st ?_
     refine sr (ZbW (f := Ze.cells) (Ze.cells_eq x32) ZGn) ?_
     refine st ?_
     refine e3 ?_
     refine st ?_
     refine cm (Zj.weak (rn []) (ZnV x32.fType _ ZHp) rfl (WS.mk (Zd (Zt (lc (lc (lc (lc Zo))))) Zc) Zb)) ?_
     refine st ?_
     refine Exists.intro [40] (Exists.intro [] (Exists.intro [] ?_))
     refine st ?_
     refine cm (Zj.weak (rn []) (ZeK r33 v _ ZEg) rfl (WS.mk (tc (tc Zc)) Zb)) ?_
     refine st ?_
     obtain rfl := Zg ZnH
     refine st ?_
     exact Exists.intro (rn [(12, 12)]) (WS.mk (tp (tc (Zd (Zak rfl (WE.refl _)) (tc (tc (Zd (Zr (web ZkF)) Zc)))))) (Zf rfl (Ze2 (Zae (by first | exact rfl | simp only [List.length_set])) (cc Zh)) (Zf rfl (cc Zh) (Zf rfl (cc Zh) Zb))))
    ·have ZnH := ife ZkF ZnH
     (conv => whnf)
     obtain rfl := Zg ZnH
     refine st ?_
     exact Exists.intro (rn [(12, 12)]) (WS.mk (tp (tc (Zd (Zak rfl (WE.refl _)) (tc (tc (Zd (Zr (web ZkF)) Zc)))))) (Zf rfl (Ze2 (Zae (by first | exact rfl | simp only [List.length_set])) (cc Zh)) (Zf rfl (cc Zh) (Zf rfl (cc Zh) Zb))))
   obtain ⟨r0, hw⟩ := hw
   (conv => whnf)
   refine AWP.weak r0 hw ?_
   refine nw ?_
   refine Zi hF (fun ZpM hF => ?_) (fun ZpM hF => ?_)
   ·refine AWP.seq ?_
    refine ns ?_
    obtain rfl := Zg hF
    refine ns ?_
    refine Exists.intro [(1000, 1000), (1001, 1001), (1002, 1002)] ?_
    refine st ?_
    exact wx (WS.mk (tc Zc) (Zf rfl (Ze2 (Zae (by first | exact rfl | simp only [List.length_set])) (cc Zh)) (Zf rfl (cc Zh) (Zf rfl (cc Zh) Zb))))
   ·refine nw ?_
    refine ns ?_
    refine AWL.weak (rn [(12, 12)]) ?_ (Zj2 v r1 (Zod + 1) s ZD8 _ hF (ZoV ++ [x26]) (by rw [ZwB]; simp) (by rw [ZwP]; simp) hlen2)
    exact (WS.mk (tp (tc (Zd (Zak rfl (WE.refl _)) (tc (Zd (Zr (Zdf (ZV hlen2 ZHW))) Zc))))) (Zf rfl (Ze2 (Zae (by first | exact rfl | simp only [List.length_set])) (cc Zh)) (Zf rfl (cc Zh) (Zf rfl (cc Zh) Zb))))
 ·subst ZEi
  refine nw ?_
  refine AWP.seq ?_
  refine ns ?_
  obtain rfl := Zg hF
  refine ns ?_
  refine Exists.intro [(1000, 1000), (1001, 1001), (1002, 1002)] ?_
  refine st ?_
  exact wx (WS.mk (tc Zc) (Zf rfl (Ze2 (Zae (by first | exact rfl | simp only [List.length_set])) (cc Zh)) (Zf rfl (cc Zh) (Zf rfl (cc Zh) Zb))))

def Zcx (s : Zu) (v : ByteArray) (t : Za) : Option (Bool) :=
 ZeZ t >>= fun r1 =>
 ZaB v r1 0 s r1
def Zcx.M (s : Zu) (v : ByteArray) (t : Za) (r : Bool) : Prop :=
 Zj Tryz.prog 80 [.ptr 1000 0, .c none (.v (.string v)), .agg [.v (.int .i64 t.fOp), .v (.string t.fName), .sl (t.fBound.fArgs.map Zk.cells), .sl (t.fKids.map Za.cells)]] [(1000, [(none, .rs 1001 s.flist.length), (none, .rf 1002)]), (1001, [(none, .ob 90 (s.flist.map Ze.cells))]), (1002, [(none, .ob 109 (s.fat.map (Zeb c_S Zcu)))])] (fun d b => d = .c none (.v (.bool r)) ∧ b = [(1000, [(none, .rs 1001 s.flist.length), (none, .rf 1002)]), (1001, [(none, .ob 90 (s.flist.map Ze.cells))]), (1002, [(none, .ob 109 (s.fat.map (Zeb c_S Zcu)))])])
theorem Zlp (s : Zu) (v : ByteArray) (t : Za) (r : Bool) (hF : Zcx s v t = some r) : Zcx.M s v t r := by
 unfold Zcx at hF
 unfold Zcx.M
 refine en Tryz.func80 ?_
 refine AWP.seq ?_
 refine ns ?_
 refine AWP.seq ?_
 refine AWP.seq ?_
 obtain ⟨r1, hr1, hF⟩ := bind_some hF
 refine ns ?_
 refine e3 ?_
 refine st ?_
 refine cm (Zj.weak (rn []) (ZnV t _ hr1) rfl (WS.mk (Zd (Zt (lc (lc (lc (lc Zo))))) Zc) Zb)) ?_
 refine st ?_
 intro hlen2
 (try rw [List.length_map] at hlen2)
 (try rw [List.length_map])
 refine st ?_
 refine AWP.block ?_
 refine AWP.loop ?_
 refine AWL.weak (rn [(12, 12)]) ?_ (ZjX v r1 0 s r1 _ hF ([]) rfl rfl hlen2)
 exact (WS.mk (tp (tc (Zd (Zak rfl (WE.refl _)) (tc (tc Zc))))) (Zf rfl (Ze2 (Zae (by first | exact rfl | simp only [List.length_set])) (cc Zh)) (Zf rfl (cc Zh) (Zf rfl (cc Zh) Zb))))

mutual
def Z2 (s : (List Ze)) (name_ : ByteArray) (t : Za) : Option (Bool) :=
 if (t.fOp == 1) = true then
 Zb5 s t.fName >>= fun r15 =>
 if (decide (r15 ≥ 0)) = true then
 (ixI s r15) >>= fun x17 =>
 Z2 ([] : List Ze) name_ x17.fType >>= fun r18 =>
 some r18
 else
 some (t.fName.toList == name_.toList)
 else
 ZJ s name_ 0 t t.fKids
 partial_fixpoint
def ZJ (s : (List Ze)) (name_ : ByteArray) (i_8 : Nat) (t : Za) (ZdC : (List Za)) : Option (Bool) :=
 (match ZdC with
 | x36 :: ZEa =>
 Z2 s name_ x36 >>= fun r39 =>
 if r39 = true then
 some true
 else
 ZJ s name_ (i_8 + 1) t ZEa
 | [] =>
 some false)
 partial_fixpoint
end
def Z2.M (s : (List Ze)) (name_ : ByteArray) (t : Za) (r : Bool) : Prop :=
 Zj Tryz.prog 55 [.c none (.sl (s.map Ze.cells)), .c none (.v (.string name_)), .agg [.v (.int .i64 t.fOp), .v (.string t.fName), .sl (t.fBound.fArgs.map Zk.cells), .sl (t.fKids.map Za.cells)]] [] (fun d b => d = .c none (.v (.bool r)) ∧ b = [])
def ZJ.M (s : (List Ze)) (name_ : ByteArray) (i_8 : Nat) (t : Za) (ZdC : (List Za)) (r : Bool) : Prop :=
 ∀ Zjf : List Za, t.fKids = Zjf ++ ZdC → i_8 = Zjf.length → AWL Tryz.prog 44 (Code.sub (Zq Tryz.f55) [1, 1, 0, 1, 0, 0]) (Code.cont Tryz.prog 44 (Zq Tryz.f55) [1, 1, 0, 1, 0] (ZbV tab Tryz.f55.results (ZbX (.c none (.v (.bool r))) []))) ⟨[(0, .c none (.sl (s.map Ze.cells))), (1, .c none (.v (.string name_))), (5, .ptr 5 0), (8, .c none (.v (.int .i64 ((i_8 : Nat) : Int))))], [(5, [(none, .v (.int .i64 t.fOp)), (none, .v (.string t.fName)), (none, .sl (t.fBound.fArgs.map Zk.cells)), (none, .sl (t.fKids.map Za.cells))])]⟩
theorem ZhY (name_ : ByteArray) : (∀ (s : (List Ze)) (t : Za), ∀ r, Z2 s name_ t = some r → Z2.M s name_ t r) ∧ (∀ (s : (List Ze)) (i_8 : Nat) (t : Za) (ZdC : (List Za)), ∀ r, ZJ s name_ i_8 t ZdC = some r → ZJ.M s name_ i_8 t ZdC r) := by
 refine Z2.mutual_partial_correctness name_ (fun s t r => Z2.M s name_ t r) (fun s i_8 t ZdC r => ZJ.M s name_ i_8 t ZdC r) ?_ ?_
 ·intro lazycref18_occurs' lazycref18_occurs_l1' ZdO Zdj s t r hF
  have Zf1 := fun (s : (List Ze)) (_name_ : ByteArray) (t : Za) => ZdO s t
  clear ZdO
  have Ze8 := fun (s : (List Ze)) (_name_ : ByteArray) (i_8 : Nat) (t : Za) (ZdC : (List Za)) => Zdj s i_8 t ZdC
  clear Zdj
  unfold Z2.M
  refine en Tryz.func55 ?_
  refine AWP.seq ?_
  refine ns ?_
  refine AWP.seq ?_
  refine AWP.seq ?_
  refine ns ?_
  refine nw ?_
  refine Zi hF (fun Zdr hF => ?_) (fun Zdr hF => ?_)
  ·refine AWP.seq ?_
   refine AWP.seq ?_
   obtain ⟨r15, ZvH, hF⟩ := bind_some hF
   refine ns ?_
   refine e3 ?_
   refine st ?_
   refine cm (Zj.weak (rn []) (ZjN s t.fName _ ZvH) rfl (WS.mk (tc (tc Zc)) Zb)) ?_
   refine st ?_
   refine AWP.seq ?_
   refine ns ?_
   refine nw ?_
   refine Zi hF (fun Zgv hF => ?_) (fun Zgv hF => ?_)
   ·refine AWP.seq ?_
    obtain ⟨x17, hx170, ZHR, hF⟩ := ZcJ hF
    obtain ⟨r18, ZCw, hF⟩ := bind_some hF
    refine nn ?_
    refine sr (ZbW (f := Ze.cells) (Ze.cells_eq x17) ZHR) ?_
    refine st ?_
    refine e3 ?_
    refine st ?_
    refine cm (Zj.weak (rn []) (Zf1 ([] : List Ze) name_ x17.fType _ ZCw) rfl (WS.mk (Zd (Zr WE.nil) (tc (Zd (Zt (lc (lc (lc (lc Zo))))) Zc))) Zb)) ?_
    refine st ?_
    obtain rfl := Zg hF
    refine ns ?_
    refine Exists.intro [] ?_
    refine st ?_
    exact wx (WS.mk (tc Zc) Zb)
   ·refine nw ?_
    refine AWP.seq ?_
    refine ns ?_
    obtain rfl := Zg hF
    refine ns ?_
    refine Exists.intro [] ?_
    refine st ?_
    exact wx (WS.mk (tc Zc) Zb)
  ·refine nw ?_
   refine AWP.seq ?_
   refine AWP.seq ?_
   refine ns ?_
   refine AWP.block ?_
   refine AWP.loop ?_
   refine AWL.weak (rn []) ?_ (Ze8 s name_ 0 t t.fKids _ hF ([]) rfl rfl)
   exact (WS.mk (tc (tc (tp (tc Zc)))) (Zf rfl (cc (cc (cc (cc Zh)))) Zb))
 ·intro lazycref18_occurs' lazycref18_occurs_l1' ZdO Zdj s i_8 t ZdC r hF
  have Zf1 := fun (s : (List Ze)) (_name_ : ByteArray) (t : Za) => ZdO s t
  clear ZdO
  have Ze8 := fun (s : (List Ze)) (_name_ : ByteArray) (i_8 : Nat) (t : Za) (ZdC : (List Za)) => Zdj s i_8 t ZdC
  clear Zdj
  unfold ZJ.M
  intro Zjf Zrg ZrT
  refine AWL.step ?_
  refine AWP.seq ?_
  refine AWP.seq ?_
  refine ns ?_
  intro hlen35
  (try rw [List.length_map] at hlen35)
  (try rw [List.length_map])
  refine st ?_
  refine nw ?_
  refine ZN Zrg ZrT (fun x36 ZEa ZEf ZHw ZH1 => ?_) (fun ZEf => ?_)
  ·subst ZEf
   refine nw ?_
   refine AWP.seq ?_
   refine AWP.block ?_
   refine AWP.seq ?_
   obtain ⟨r39, ZCZ, hF⟩ := bind_some hF
   refine nn ?_
   refine sr (Zab (f := Za.cells) (Za.cells_eq x36) ZHw) ?_
   refine st ?_
   refine e3 ?_
   refine st ?_
   refine cm (Zj.weak (rn []) (Zf1 s name_ x36 _ ZCZ) rfl (WS.mk (tc (tc (Zd (Zt (lc (lc (lc (lc Zo))))) Zc))) Zb)) ?_
   refine st ?_
   refine nw ?_
   refine Zi hF (fun Zol hF => ?_) (fun Zol hF => ?_)
   ·refine AWP.seq ?_
    refine ns ?_
    obtain rfl := Zg hF
    refine ns ?_
    refine Exists.intro [] ?_
    refine st ?_
    exact wx (WS.mk (tc Zc) Zb)
   ·refine nw ?_
    refine ns ?_
    refine AWL.weak (rn []) ?_ (Ze8 s name_ (i_8 + 1) t ZEa _ hF (Zjf ++ [x36]) (by rw [Zrg]; simp) (by rw [ZrT]; simp))
    exact (WS.mk (tc (tc (tp (Zd (Zr (Zdf (ZV hlen35 ZH1))) Zc)))) (Zf rfl (cc (cc (cc (cc Zh)))) Zb))
  ·subst ZEf
   refine nw ?_
   refine AWP.seq ?_
   refine ns ?_
   obtain rfl := Zg hF
   refine ns ?_
   refine Exists.intro [] ?_
   refine st ?_
   exact wx (WS.mk (tc Zc) Zb)
theorem Zmu : ∀ (s : (List Ze)) (name_ : ByteArray) (t : Za), ∀ r, Z2 s name_ t = some r → Z2.M s name_ t r := fun s name_ t => (ZhY name_).1 s t
theorem lazycref18_occurs_l1_ok : ∀ (s : (List Ze)) (name_ : ByteArray) (i_8 : Nat) (t : Za) (ZdC : (List Za)), ∀ r, ZJ s name_ i_8 t ZdC = some r → ZJ.M s name_ i_8 t ZdC r := fun s name_ i_8 t ZdC => (ZhY name_).2 s i_8 t ZdC

def ZbR (l : (List ByteArray)) (s : ByteArray) (i_5 : Nat) (Zaw : (List ByteArray)) : Option (Bool) :=
 (match Zaw with
 | x16 :: ZjT =>
 if (x16.toList == s.toList) = true then
 some true
 else
 ZbR l s (i_5 + 1) ZjT
 | [] =>
 some false)
 partial_fixpoint
def ZbR.M (l : (List ByteArray)) (s : ByteArray) (i_5 : Nat) (Zaw : (List ByteArray)) (r : Bool) : Prop :=
 ∀ Zdy : List ByteArray, l = Zdy ++ Zaw → i_5 = Zdy.length → AWL Tryz.prog 18 (Code.sub (Zq Tryz.f60) [1, 0, 1, 0, 0]) (Code.cont Tryz.prog 18 (Zq Tryz.f60) [1, 0, 1, 0] (ZbV tab Tryz.f60.results (ZbX (.c none (.v (.bool r))) []))) ⟨[(0, .c none (.sl (l.map c_S))), (1, .c none (.v (.string s))), (5, .c none (.v (.int .i64 ((i_5 : Nat) : Int))))], []⟩
theorem ZmL (l : (List ByteArray)) (s : ByteArray) (i_5 : Nat) (Zaw : (List ByteArray)) : ∀ r, ZbR l s i_5 Zaw = some r → ZbR.M l s i_5 Zaw r := by
 refine ZbR.partial_correctness l s (fun i_5 Zaw r => ZbR.M l s i_5 Zaw r) ?_ i_5 Zaw
 intro lazycref01_Has_l1' Zh3 i_5 Zaw r hF
 have Zmq := fun (_l : (List ByteArray)) (_s : ByteArray) (i_5 : Nat) (Zaw : (List ByteArray)) => Zh3 i_5 Zaw
 clear Zh3
 unfold ZbR.M
 intro Zdy ZhB ZhA
 refine AWL.step ?_
 refine AWP.seq ?_
 refine AWP.seq ?_
 refine ns ?_
 intro hlen15
 (try rw [List.length_map] at hlen15)
 (try rw [List.length_map])
 refine st ?_
 refine nw ?_
 refine ZN ZhB ZhA (fun x16 ZjT ZjE Zrd Zr1 => ?_) (fun ZjE => ?_)
 ·subst ZjE
  refine nw ?_
  refine AWP.seq ?_
  refine AWP.block ?_
  refine AWP.seq ?_
  refine nn ?_
  refine sr (Zab (f := c_S) rfl Zrd) ?_
  refine st ?_
  refine nw ?_
  refine Zi hF (fun Zta hF => ?_) (fun Zta hF => ?_)
  ·refine AWP.seq ?_
   refine ns ?_
   obtain rfl := Zg hF
   refine ns ?_
   refine Exists.intro [] ?_
   refine st ?_
   exact wx (WS.mk (tc Zc) Zb)
  ·refine nw ?_
   refine ns ?_
   refine AWL.weak (rn []) ?_ (Zmq l s (i_5 + 1) ZjT _ hF (Zdy ++ [x16]) (by rw [ZhB]; simp) (by rw [ZhA]; simp))
   exact (WS.mk (tc (tc (Zd (Zr (Zdf (ZV hlen15 Zr1))) Zc))) Zb)
 ·subst ZjE
  refine nw ?_
  refine AWP.seq ?_
  refine ns ?_
  obtain rfl := Zg hF
  refine ns ?_
  refine Exists.intro [] ?_
  refine st ?_
  exact wx (WS.mk (tc Zc) Zb)

def ZbE (l : (List ByteArray)) (s : ByteArray) : Option (Bool) :=
 ZbR l s 0 l
def ZbE.M (l : (List ByteArray)) (s : ByteArray) (r : Bool) : Prop :=
 Zj Tryz.prog 60 [.c none (.sl (l.map c_S)), .c none (.v (.string s))] [] (fun d b => d = .c none (.v (.bool r)) ∧ b = [])
theorem ZeU (l : (List ByteArray)) (s : ByteArray) (r : Bool) (hF : ZbE l s = some r) : ZbE.M l s r := by
 unfold ZbE at hF
 unfold ZbE.M
 refine en Tryz.func60 ?_
 refine AWP.seq ?_
 refine ns ?_
 refine AWP.seq ?_
 refine AWP.seq ?_
 refine ns ?_
 refine AWP.block ?_
 refine AWP.loop ?_
 refine AWL.weak (rn []) ?_ (ZmL l s 0 l _ hF ([]) rfl rfl)
 exact (WS.mk (tc (tc (tc Zc))) Zb)

def ZcM (l : (List ByteArray)) (s : ByteArray) : Option ((List ByteArray)) :=
 ZbE l s >>= fun r3 =>
 if r3 = true then
 some l
 else
 Z4 ((l.length + ([s]).length) * 16 ≤ 140737488355328) >>= fun _ =>
 some (l ++ ([s]))
def ZcM.M (l : (List ByteArray)) (s : ByteArray) (r : (List ByteArray)) : Prop :=
 Zj Tryz.prog 67 [.c (some (0, 9)) (.sl (l.map c_S)), .c none (.v (.string s))] [] (fun d b => d = .c (some (0, 9)) (.sl (r.map c_S)) ∧ b = [])
theorem Zmk (l : (List ByteArray)) (s : ByteArray) (r : (List ByteArray)) (hF : ZcM l s = some r) : ZcM.M l s r := by
 unfold ZcM at hF
 unfold ZcM.M
 refine en Tryz.func67 ?_
 refine AWP.seq ?_
 refine ns ?_
 refine AWP.seq ?_
 refine AWP.seq ?_
 obtain ⟨r3, hr3, hF⟩ := bind_some hF
 refine ns ?_
 refine Exists.intro [0] (Exists.intro [] (Exists.intro [] ?_))
 refine st ?_
 refine cm (Zj.weak (rn []) (ZeU l s _ hr3) rfl (WS.mk (tc (tc Zc)) Zb)) ?_
 refine st ?_
 refine nw ?_
 refine Zi hF (fun hc4 hF => ?_) (fun hc4 hF => ?_)
 ·refine AWP.seq ?_
  refine ns ?_
  obtain rfl := Zg hF
  refine ns ?_
  refine Exists.intro [] ?_
  refine st ?_
  exact Exists.intro (rn [(0, 0)]) (WS.mk (Zd (Zak rfl (WE.refl _)) Zc) Zb)
 ·refine nw ?_
  refine AWP.seq ?_
  obtain ⟨hg5, hF⟩ := Zy hF
  refine ns ?_
  refine Exists.intro _ (And.intro (Zbv (f := c_S) (lc Zo) (ZY (f := c_S))) ?_)
  refine sa (fun l => ZbS l (fun x => ZfN x)) hg5 ?_
  refine Exists.intro _ (And.intro (WE.refl _) ?_)
  rw [← List.map_append]
  refine st ?_
  obtain rfl := Zg hF
  refine ns ?_
  refine Exists.intro [] ?_
  refine st ?_
  exact Exists.intro (rn [(12, 0)]) (WS.mk (Zd (Zak rfl (WE.refl _)) Zc) Zb)

mutual
def Zal (out : (List ByteArray)) (Z3 : (List ByteArray)) (t : Za) : Option ((List ByteArray)) :=
 (if (t.fOp == 1) = true then ZbE Z3 t.fName >>= fun r5 =>
 some (!r5) else some false) >>= fun c6 =>
 if c6 = true then
 ZcM out t.fName >>= fun r9 =>
 some r9
 else
 if (t.fOp == 4) = true then
 Z4 ((0 + Z3.length) * 16 ≤ 140737488355328) >>= fun _ =>
 Z4 ((Z3.length + ([t.fName]).length) * 16 ≤ 140737488355328) >>= fun _ =>
 Zap out (Z3 ++ ([t.fName])) t
 else
 Zap out Z3 t
 partial_fixpoint
def Zap (out : (List ByteArray)) (ZA : (List ByteArray)) (t : Za) : Option ((List ByteArray)) :=
 Z8 out ZA 0 t t.fKids
 partial_fixpoint
def Z8 (ZlX : (List ByteArray)) (ZA : (List ByteArray)) (i_8 : Nat) (t : Za) (ZdC : (List Za)) : Option ((List ByteArray)) :=
 (match ZdC with
 | x28 :: ZDJ =>
 Zal ZlX ZA x28 >>= fun r31 =>
 Z8 r31 ZA (i_8 + 1) t ZDJ
 | [] =>
 some ZlX)
 partial_fixpoint
end
def Zal.M (out : (List ByteArray)) (Z3 : (List ByteArray)) (t : Za) (r : (List ByteArray)) : Prop :=
 Zj Tryz.prog 41 [.c (some (0, 9)) (.sl (out.map c_S)), .c none (.sl (Z3.map c_S)), .agg [.v (.int .i64 t.fOp), .v (.string t.fName), .sl (t.fBound.fArgs.map Zk.cells), .sl (t.fKids.map Za.cells)]] [] (fun d b => d = .c (some (0, 9)) (.sl (r.map c_S)) ∧ b = [])
def Zap.M (out : (List ByteArray)) (ZA : (List ByteArray)) (t : Za) (r : (List ByteArray)) : Prop :=
 AWP Tryz.prog 51 (Code.sub (Zq Tryz.f41) [1, 1, 1]) (Code.cont Tryz.prog 51 (Zq Tryz.f41) [1, 1, 1] (ZbV tab Tryz.f41.results (ZbX (.c (some (0, 9)) (.sl (r.map c_S))) []))) ⟨[(0, .c (some (0, 9)) (.sl (out.map c_S))), (1, .c none (.sl (ZA.map c_S))), (5, .ptr 5 0)], [(5, [(none, .v (.int .i64 t.fOp)), (none, .v (.string t.fName)), (none, .sl (t.fBound.fArgs.map Zk.cells)), (none, .sl (t.fKids.map Za.cells))])]⟩
def Z8.M (ZlX : (List ByteArray)) (ZA : (List ByteArray)) (i_8 : Nat) (t : Za) (ZdC : (List Za)) (r : (List ByteArray)) : Prop :=
 ∀ Zjf : List Za, t.fKids = Zjf ++ ZdC → i_8 = Zjf.length → AWL Tryz.prog 51 (Code.sub (Zq Tryz.f41) [1, 1, 1, 0, 1, 0, 0]) (Code.cont Tryz.prog 51 (Zq Tryz.f41) [1, 1, 1, 0, 1, 0] (ZbV tab Tryz.f41.results (ZbX (.c (some (0, 9)) (.sl (r.map c_S))) []))) ⟨[(0, .c (some (0, 9)) (.sl (ZlX.map c_S))), (1, .c none (.sl (ZA.map c_S))), (5, .ptr 5 0), (8, .c none (.v (.int .i64 ((i_8 : Nat) : Int))))], [(5, [(none, .v (.int .i64 t.fOp)), (none, .v (.string t.fName)), (none, .sl (t.fBound.fArgs.map Zk.cells)), (none, .sl (t.fKids.map Za.cells))])]⟩
theorem Zfk : (∀ (out : (List ByteArray)) (Z3 : (List ByteArray)) (t : Za), ∀ r, Zal out Z3 t = some r → Zal.M out Z3 t r) ∧ (∀ (out : (List ByteArray)) (ZA : (List ByteArray)) (t : Za), ∀ r, Zap out ZA t = some r → Zap.M out ZA t r) ∧ (∀ (ZlX : (List ByteArray)) (ZA : (List ByteArray)) (i_8 : Nat) (t : Za) (ZdC : (List Za)), ∀ r, Z8 ZlX ZA i_8 t ZdC = some r → Z8.M ZlX ZA i_8 t ZdC r) := by
 refine Zal.mutual_partial_correctness Zal.M Zap.M Z8.M ?_ ?_ ?_
 ·intro lazycref04_Collect_k1' ZgE out Z3 t r hF
  unfold Zal.M
  refine en Tryz.func41 ?_
  refine AWP.seq ?_
  refine ns ?_
  refine AWP.seq ?_
  refine AWP.seq ?_
  obtain ⟨c6, hc6, hF⟩ := bind_some hF
  refine AWP.cutN (fun T => ∃ r, WS r T ⟨[(0, .c (some (0, 9)) (.sl (out.map c_S))), (1, .c none (.sl (Z3.map c_S))), (5, .ptr 5 0), (18, .c none (.v (.bool c6)))], [(5, [(none, .v (.int .i64 t.fOp)), (none, .v (.string t.fName)), (none, .sl (t.fBound.fArgs.map Zk.cells)), (none, .sl (t.fKids.map Za.cells))])]⟩) ?_ (fun T hw => ?_)
  ·refine ns ?_
   refine Zm true (fun hc7 => ?_) (fun hc7 => ?_)
   ·have hc6 := ift hc7 hc6
    obtain ⟨r5, hr5, hc6⟩ := bind_some hc6
    (conv => whnf)
    refine st ?_
    refine e3 ?_
    refine st ?_
    refine cm (Zj.weak (rn []) (ZeU Z3 t.fName _ hr5) rfl (WS.mk (tc (tc Zc)) Zb)) ?_
    refine st ?_
    obtain rfl := Zg hc6
    refine st ?_
    exact Exists.intro (rn [(0, 0)]) (WS.mk (Zd (Zak rfl (WE.refl _)) (tc (tp (Zd (Zr (web hc7)) Zc)))) (Zf rfl (cc (cc (cc (cc Zh)))) Zb))
   ·have hc6 := ife hc7 hc6
    (conv => whnf)
    obtain rfl := Zg hc6
    refine st ?_
    exact Exists.intro (rn [(0, 0)]) (WS.mk (Zd (Zak rfl (WE.refl _)) (tc (tp (Zd (Zr (web hc7)) Zc)))) (Zf rfl (cc (cc (cc (cc Zh)))) Zb))
  obtain ⟨r0, hw⟩ := hw
  (conv => whnf)
  refine AWP.weak r0 hw ?_
  refine nw ?_
  refine Zi hF (fun hc8 hF => ?_) (fun hc8 hF => ?_)
  ·refine AWP.seq ?_
   obtain ⟨r9, hr9, hF⟩ := bind_some hF
   refine ns ?_
   refine e3 ?_
   refine st ?_
   refine cm (Zj.weak (rn [(0, 0)]) (Zmk out t.fName _ hr9) rfl (WS.mk (Zd (Zak rfl (WE.refl _)) (tc Zc)) Zb)) ?_
   refine st ?_
   obtain rfl := Zg hF
   refine ns ?_
   refine Exists.intro [] ?_
   refine st ?_
   exact Exists.intro (rn [(22, 0)]) (WS.mk (Zd (Zak rfl (WE.refl _)) Zc) Zb)
  ·refine nw ?_
   refine AWP.seq ?_
   refine AWP.seq ?_
   refine ns ?_
   refine nw ?_
   refine Zi hF (fun ZnF hF => ?_) (fun ZnF hF => ?_)
   ·refine AWP.seq ?_
    refine ns ?_
    refine AWP.seq ?_
    obtain ⟨ZIL, hF⟩ := Zy hF
    refine nn ?_
    refine sa (fun l => ZbS l (fun x => ZfN x)) ZIL ?_
    refine Exists.intro _ (And.intro (WE.refl _) ?_)
    (try rw [List.nil_append])
    refine st ?_
    refine AWP.seq ?_
    obtain ⟨ZHD, hF⟩ := Zy hF
    refine ns ?_
    refine Exists.intro _ (And.intro (Zbv (f := c_S) (lc Zo) (ZY (f := c_S))) ?_)
    refine sa (fun l => ZbS l (fun x => ZfN x)) ZHD ?_
    refine Exists.intro _ (And.intro (WE.refl _) ?_)
    rw [← List.map_append]
    refine st ?_
    refine ns ?_
    refine AWP.weak (rn [(0, 0)]) ?_ (ZgE out (Z3 ++ ([t.fName])) t _ hF)
    exact (WS.mk (Zd (Zak rfl (WE.refl _)) (tc (tp Zc))) (Zf rfl (cc (cc (cc (cc Zh)))) Zb))
   ·refine nw ?_
    refine AWP.weak (rn [(0, 0)]) ?_ (ZgE out Z3 t _ hF)
    exact (WS.mk (Zd (Zak rfl (WE.refl _)) (tc (tp Zc))) (Zf rfl (cc (cc (cc (cc Zh)))) Zb))
 ·intro lazycref04_Collect_l2' ZeY out ZA t r hF
  unfold Zap.M
  refine AWP.seq ?_
  refine AWP.seq ?_
  refine ns ?_
  refine AWP.block ?_
  refine AWP.loop ?_
  refine AWL.weak (rn [(0, 0)]) ?_ (ZeY out ZA 0 t t.fKids _ hF ([]) rfl rfl)
  exact (WS.mk (Zd (Zak rfl (WE.refl _)) (tc (tp (tc Zc)))) (Zf rfl (cc (cc (cc (cc Zh)))) Zb))
 ·intro lazycref04_Collect' lazycref04_Collect_l2' Zmc ZeY ZlX ZA i_8 t ZdC r hF
  unfold Z8.M
  intro Zjf Zrg ZrT
  refine AWL.step ?_
  refine AWP.seq ?_
  refine AWP.seq ?_
  refine ns ?_
  intro hlen27
  (try rw [List.length_map] at hlen27)
  (try rw [List.length_map])
  refine st ?_
  refine nw ?_
  refine ZN Zrg ZrT (fun x28 ZDJ ZDY ZHY ZHy => ?_) (fun ZDY => ?_)
  ·subst ZDY
   refine nw ?_
   refine AWP.seq ?_
   refine AWP.block ?_
   obtain ⟨r31, ZB9, hF⟩ := bind_some hF
   refine nn ?_
   refine sr (Zab (f := Za.cells) (Za.cells_eq x28) ZHY) ?_
   refine st ?_
   refine e3 ?_
   refine st ?_
   refine cm (Zj.weak (rn [(0, 0)]) (Zmc ZlX ZA x28 _ ZB9) rfl (WS.mk (Zd (Zak rfl (WE.refl _)) (tc (Zd (Zt (lc (lc (lc (lc Zo))))) Zc))) Zb)) ?_
   refine st ?_
   refine ns ?_
   refine AWL.weak (rn [(49, 0)]) ?_ (ZeY r31 ZA (i_8 + 1) t ZDJ _ hF (Zjf ++ [x28]) (by rw [Zrg]; simp) (by rw [ZrT]; simp))
   exact (WS.mk (Zd (Zak rfl (WE.refl _)) (tc (tp (Zd (Zr (Zdf (ZV hlen27 ZHy))) Zc)))) (Zf rfl (cc (cc (cc (cc Zh)))) Zb))
  ·subst ZDY
   refine nw ?_
   refine AWP.seq ?_
   refine ns ?_
   obtain rfl := Zg hF
   refine ns ?_
   refine Exists.intro [] ?_
   refine st ?_
   exact Exists.intro (rn [(0, 0)]) (WS.mk (Zd (Zak rfl (WE.refl _)) Zc) Zb)
theorem ZfG : ∀ (out : (List ByteArray)) (Z3 : (List ByteArray)) (t : Za), ∀ r, Zal out Z3 t = some r → Zal.M out Z3 t r := Zfk.1
theorem lazycref04_Collect_k1_ok : ∀ (out : (List ByteArray)) (ZA : (List ByteArray)) (t : Za), ∀ r, Zap out ZA t = some r → Zap.M out ZA t r := Zfk.2.1
theorem lazycref04_Collect_l2_ok : ∀ (ZlX : (List ByteArray)) (ZA : (List ByteArray)) (i_8 : Nat) (t : Za) (ZdC : (List Za)), ∀ r, Z8 ZlX ZA i_8 t ZdC = some r → Z8.M ZlX ZA i_8 t ZdC r := Zfk.2.2

def Zdt (t : Za) : Option ((List ByteArray)) :=
 ZaI t >>= fun r3 =>
 if (r3 != 0) = true then
 some ([] : List ByteArray)
 else
 Zal ([] : List ByteArray) ([] : List ByteArray) t >>= fun r5 =>
 some r5
def Zdt.M (t : Za) (r : (List ByteArray)) : Prop :=
 Zj Tryz.prog 19 [.agg [.v (.int .i64 t.fOp), .v (.string t.fName), .sl (t.fBound.fArgs.map Zk.cells), .sl (t.fKids.map Za.cells)]] [] (fun d b => d = .c (some (0, 9)) (.sl (r.map c_S)) ∧ b = [])
theorem Zog (t : Za) (r : (List ByteArray)) (hF : Zdt t = some r) : Zdt.M t r := by
 unfold Zdt at hF
 unfold Zdt.M
 refine en Tryz.func19 ?_
 refine AWP.seq ?_
 refine ns ?_
 refine AWP.seq ?_
 refine AWP.seq ?_
 obtain ⟨r3, hr3, hF⟩ := bind_some hF
 refine ns ?_
 refine e3 ?_
 refine st ?_
 refine cm (Zj.weak (rn []) (ZdH t _ hr3) rfl (WS.mk (Zd (Zt (lc (lc (lc (lc Zo))))) Zc) Zb)) ?_
 refine st ?_
 refine nw ?_
 refine Zi hF (fun hc4 hF => ?_) (fun hc4 hF => ?_)
 ·refine AWP.seq ?_
  refine ns ?_
  obtain rfl := Zg hF
  refine ns ?_
  refine Exists.intro [] ?_
  refine st ?_
  exact wx (WS.mk (Zd Zju Zc) Zb)
 ·refine nw ?_
  refine AWP.seq ?_
  obtain ⟨r5, hr5, hF⟩ := bind_some hF
  refine ns ?_
  refine e3 ?_
  refine st ?_
  refine cm (Zj.weak (rn []) (ZfG ([] : List ByteArray) ([] : List ByteArray) t _ hr5) rfl (WS.mk (Zd Zju (Zd (Zr WE.nil) (Zd (Zt (lc (lc (lc (lc Zo))))) Zc))) Zb)) ?_
  refine st ?_
  obtain rfl := Zg hF
  refine ns ?_
  refine Exists.intro [] ?_
  refine st ?_
  exact Exists.intro (rn [(7, 0)]) (WS.mk (Zd (Zak rfl (WE.refl _)) Zc) Zb)

mutual
def ZbU (sub : (List (ByteArray × Za))) (t : Za) : Option (Int × Int) :=
 ZeN sub (Za.mk 0 (ByteArray.mk #[]) (Zk.mk ([] : List Zk)) ([] : List Za)) t.fName >>= fun r7 =>
 if (r7.2 && (t.fOp == 1)) = true then
 ZcD r7.1 >>= fun r12 =>
 Zci r7.1 >>= fun r13 =>
 some (r12, r13)
 else
 ZeN sub (Za.mk 0 (ByteArray.mk #[]) (Zk.mk ([] : List Zk)) ([] : List Za)) t.fName >>= fun r16 =>
 if (r16.2 && (t.fOp == 4)) = true then
 none
 else
 Z5 0 0 t 0 sub t.fKids
 partial_fixpoint
def Z5 (ZcR : Int) (ZbG : Int) (t : Za) (Zk5 : Nat) (sub : (List (ByteArray × Za))) (ZeC : (List Za)) : Option (Int × Int) :=
 (match ZeC with
 | x42 :: ZD3 =>
 ZbU sub x42 >>= fun r45 =>
 Z5 (IntKind.i64.wrap (ZcR + r45.1)) (if r45.2 > ZbG then r45.2 else ZbG) t (Zk5 + 1) sub ZD3
 | [] =>
 some (IntKind.i64.wrap (ZcR + 1), IntKind.i64.wrap (ZbG + 1)))
 partial_fixpoint
end
def ZbU.M (sub : (List (ByteArray × Za))) (t : Za) (r : Int × Int) : Prop :=
 Zj Tryz.prog 69 [.c none (.rf 1000), .agg [.v (.int .i64 t.fOp), .v (.string t.fName), .sl (t.fBound.fArgs.map Zk.cells), .sl (t.fKids.map Za.cells)]] [(1000, [(none, .ob 183 (sub.map (Zeb c_S Za.cells)))])] (fun d b => d = .tup [.c (.v (.int .i64 r.1)), .c (.v (.int .i64 r.2))] ∧ b = [(1000, [(none, .ob 183 (sub.map (Zeb c_S Za.cells)))])])
def Z5.M (ZcR : Int) (ZbG : Int) (t : Za) (Zk5 : Nat) (sub : (List (ByteArray × Za))) (ZeC : (List Za)) (r : Int × Int) : Prop :=
 ∀ ZoE : List Za, t.fKids = ZoE ++ ZeC → Zk5 = ZoE.length → t.fKids.length ≤ maxLen → AWL Tryz.prog 72 (Code.sub (Zq Tryz.f69) [1, 1, 1, 0, 1, 0, 0]) (Code.cont Tryz.prog 72 (Zq Tryz.f69) [1, 1, 1, 0, 1, 0] (ZbV tab Tryz.f69.results (ZbX (.tup [.c (.v (.int .i64 r.1)), .c (.v (.int .i64 r.2))]) [(1000, [(none, .ob 183 (sub.map (Zeb c_S Za.cells)))])]))) ⟨[(0, .c none (.rf 1000)), (4, .c none (.v (.int .i64 ZcR))), (5, .c none (.v (.int .i64 ZbG))), (49, .c none (.sl (t.fKids.map Za.cells))), (50, .c none (.v (.int .i64 ((t.fKids.length : Nat) : Int)))), (51, .c none (.v (.int .i64 ((Zk5 : Nat) : Int))))], [(1000, [(none, .ob 183 (sub.map (Zeb c_S Za.cells)))])]⟩
theorem Zj8 (sub : (List (ByteArray × Za))) : (∀ (t : Za), ∀ r, ZbU sub t = some r → ZbU.M sub t r) ∧ (∀ (ZcR : Int) (ZbG : Int) (t : Za) (Zk5 : Nat) (ZeC : (List Za)), ∀ r, Z5 ZcR ZbG t Zk5 sub ZeC = some r → Z5.M ZcR ZbG t Zk5 sub ZeC r) := by
 refine ZbU.mutual_partial_correctness sub (fun t r => ZbU.M sub t r) (fun ZcR ZbG t Zk5 ZeC r => Z5.M ZcR ZbG t Zk5 sub ZeC r) ?_ ?_
 ·intro types_measure_l1' ZdZ t r hF
  have Zgz := fun (ZcR : Int) (ZbG : Int) (t : Za) (Zk5 : Nat) (_sub : (List (ByteArray × Za))) (ZeC : (List Za)) => ZdZ ZcR ZbG t Zk5 ZeC
  clear ZdZ
  unfold ZbU.M
  refine en Tryz.func69 ?_
  refine AWP.seq ?_
  refine ns ?_
  refine AWP.seq ?_
  refine AWP.seq ?_
  obtain ⟨r7, hr7, hF⟩ := bind_some hF
  refine ns ?_
  refine Zhy (m := sub) (k := t.fName) ZhI (ev := Za.cells) hr7 (Za.cells_eq r7.1) (fun x => Za.cells_len x) rfl rfl (ZdA (Za.cells_eq (Za.mk 0 (ByteArray.mk #[]) (Zk.mk ([] : List Zk)) ([] : List Za))) (lc (lc (ZaR WE.nil (ZaR WE.nil Zo))))) ?_
  refine st ?_
  refine AWP.seq ?_
  refine AWP.cutN (fun T => ∃ r, WS r T ⟨[(0, .c none (.rf 1000)), (3, .ptr 3 0), (4, .c none (.v (.int .i64 0))), (5, .c none (.v (.int .i64 0))), (6, .ptr 6 0), (26, .c none (.v (.bool (r7.2 && (t.fOp == 1)))))], [(3, [(none, .v (.int .i64 t.fOp)), (none, .v (.string t.fName)), (none, .sl (t.fBound.fArgs.map Zk.cells)), (none, .sl (t.fKids.map Za.cells))]), (6, [(none, .v (.int .i64 r7.1.fOp)), (none, .v (.string r7.1.fName)), (none, .sl (r7.1.fBound.fArgs.map Zk.cells)), (none, .sl (r7.1.fKids.map Za.cells))]), (1000, [(none, .ob 183 (sub.map (Zeb c_S Za.cells)))])]⟩) ?_ (fun T hw => ?_)
  ·refine ns ?_
   refine Zm true (fun hc8 => ?_) (fun hc8 => ?_)
   ·(conv => whnf)
    refine st ?_
    exact wx (WS.mk (tc (tp (tc (tc (tp (Zd (Zr (web hc8)) Zc)))))) (Zf rfl (cc (cc (cc (cc Zh)))) (Zf rfl (cc (cc (cc (cc Zh)))) (Zf rfl (cc Zh) Zb))))
   ·(conv => whnf)
    refine st ?_
    exact wx (WS.mk (tc (tp (tc (tc (tp (Zd (Zr (web hc8)) Zc)))))) (Zf rfl (cc (cc (cc (cc Zh)))) (Zf rfl (cc (cc (cc (cc Zh)))) (Zf rfl (cc Zh) Zb))))
  obtain ⟨r0, hw⟩ := hw
  (conv => whnf)
  refine AWP.weak r0 hw ?_
  refine nw ?_
  refine Zi hF (fun hc9 hF => ?_) (fun hc9 hF => ?_)
  ·refine AWP.seq ?_
   obtain ⟨r12, Zzo, hF⟩ := bind_some hF
   obtain ⟨r13, ZIC, hF⟩ := bind_some hF
   refine nn ?_
   refine Or.inr (Exists.intro [2] (Exists.intro [[29]] (Exists.intro [6] (Exists.intro [6, 29] (Exists.intro [29] (Exists.intro [0, 1, 3, 4, 5] (And.intro (by decide +kernel) ?_)))))))
   refine dp ?_
   refine st ?_
   refine e3 ?_
   refine st ?_
   refine cm (Zj.weak (rn []) (ZnR r7.1 _ Zzo) rfl (WS.mk (Zd (Zt (lc (lc (lc (lc Zo))))) Zc) Zb)) ?_
   refine st ?_
   refine e3 ?_
   refine st ?_
   refine cm (Zj.weak (rn []) (Zmv r7.1 _ ZIC) rfl (WS.mk (Zd (Zt (lc (lc (lc (lc Zo))))) Zc) Zb)) ?_
   refine st ?_
   obtain rfl := Zg hF
   refine ns ?_
   refine Exists.intro [(1000, 1000)] ?_
   refine st ?_
   exact wx (WS.mk (Zd (Zc9 (ZcC (WE.refl _) (ZcC (WE.refl _) Zc6))) Zc) (Zf rfl (cc Zh) Zb))
  ·refine nw ?_
   refine AWP.seq ?_
   refine AWP.seq ?_
   obtain ⟨r16, ZvF, hF⟩ := bind_some hF
   refine ns ?_
   refine Zhy (m := sub) (k := t.fName) ZhI (ev := Za.cells) ZvF (Za.cells_eq r16.1) (fun x => Za.cells_len x) rfl rfl (ZdA (Za.cells_eq (Za.mk 0 (ByteArray.mk #[]) (Zk.mk ([] : List Zk)) ([] : List Za))) (lc (lc (ZaR WE.nil (ZaR WE.nil Zo))))) ?_
   refine st ?_
   refine AWP.seq ?_
   refine AWP.cutN (fun T => ∃ r, WS r T ⟨[(0, .c none (.rf 1000)), (3, .ptr 3 0), (4, .c none (.v (.int .i64 0))), (5, .c none (.v (.int .i64 0))), (43, .c none (.v (.bool (r16.2 && (t.fOp == 4)))))], [(3, [(none, .v (.int .i64 t.fOp)), (none, .v (.string t.fName)), (none, .sl (t.fBound.fArgs.map Zk.cells)), (none, .sl (t.fKids.map Za.cells))]), (1000, [(none, .ob 183 (sub.map (Zeb c_S Za.cells)))])]⟩) ?_ (fun T hw => ?_)
   ·refine ns ?_
    refine Zm true (fun ZiJ => ?_) (fun ZiJ => ?_)
    ·(conv => whnf)
     refine st ?_
     exact wx (WS.mk (tc (tp (tc (tc (Zd (Zr (web ZiJ)) Zc))))) (Zf rfl (cc (cc (cc (cc Zh)))) (Zf rfl (cc Zh) Zb)))
    ·(conv => whnf)
     refine st ?_
     exact wx (WS.mk (tc (tp (tc (tc (Zd (Zr (web ZiJ)) Zc))))) (Zf rfl (cc (cc (cc (cc Zh)))) (Zf rfl (cc Zh) Zb)))
   obtain ⟨r0, hw⟩ := hw
   (conv => whnf)
   refine AWP.weak r0 hw ?_
   refine nw ?_
   refine Zi hF (fun Ztm hF => ?_) (fun Ztm hF => ?_)
   ·cases hF
   ·refine nw ?_
    refine AWP.seq ?_
    refine AWP.seq ?_
    refine ns ?_
    intro hlen32
    (try rw [List.length_map] at hlen32)
    (try rw [List.length_map])
    refine st ?_
    refine AWP.block ?_
    refine AWP.loop ?_
    refine AWL.weak (rn []) ?_ (Zgz 0 0 t 0 sub t.fKids _ hF ([]) rfl rfl hlen32)
    exact (WS.mk (tc (tc (tc (tc (tc (tc Zc)))))) (Zf rfl (cc Zh) Zb))
 ·intro types_measure' types_measure_l1' Zkd ZdZ ZcR ZbG t Zk5 ZeC r hF
  have Zpg := fun (_sub : (List (ByteArray × Za))) (t : Za) => Zkd t
  clear Zkd
  have Zgz := fun (ZcR : Int) (ZbG : Int) (t : Za) (Zk5 : Nat) (_sub : (List (ByteArray × Za))) (ZeC : (List Za)) => ZdZ ZcR ZbG t Zk5 ZeC
  clear ZdZ
  unfold Z5.M
  intro ZoE ZwE ZwT hlen32
  refine AWL.step ?_
  refine AWP.seq ?_
  refine ns ?_
  refine AWP.seq ?_
  refine nw ?_
  refine ZN ZwE ZwT (fun x42 ZD3 ZDN ZHJ ZHZ => ?_) (fun ZDN => ?_)
  ·subst ZDN
   refine nw ?_
   refine AWP.seq ?_
   refine AWP.block ?_
   refine AWP.seq ?_
   refine nn ?_
   refine sr (Zab (f := Za.cells) (Za.cells_eq x42) ZHJ) ?_
   refine st ?_
   refine AWP.seq ?_
   obtain ⟨r45, ZG6, hF⟩ := bind_some hF
   refine ns ?_
   refine Exists.intro [] (Exists.intro [(1000, 1000)] (Exists.intro [] ?_))
   refine st ?_
   refine cm (Zj.weak (rn []) (Zpg sub x42 _ ZG6) rfl (WS.mk (tc (Zd (Zt (lc (lc (lc (lc Zo))))) Zc)) (Zf rfl (cc Zh) Zb))) ?_
   refine st ?_
   refine ns ?_
   refine ns ?_
   refine AWL.weak (rn []) ?_ (Zgz (IntKind.i64.wrap (ZcR + r45.1)) (if r45.2 > ZbG then r45.2 else ZbG) t (Zk5 + 1) sub ZD3 _ hF (ZoE ++ [x42]) (by rw [ZwE]; simp) (by rw [ZwT]; simp) hlen32)
   exact (WS.mk (tc (tc (tc (tc (tc (Zd (Zr (Zdf (ZV hlen32 ZHZ))) Zc)))))) (Zf rfl (cc Zh) Zb))
  ·subst ZDN
   refine nw ?_
   refine AWP.seq ?_
   refine ns ?_
   obtain rfl := Zg hF
   refine ns ?_
   refine Exists.intro [(1000, 1000)] ?_
   refine st ?_
   exact wx (WS.mk (Zd (Zc9 (ZcC (WE.refl _) (ZcC (WE.refl _) Zc6))) Zc) (Zf rfl (cc Zh) Zb))
theorem Zk1 : ∀ (sub : (List (ByteArray × Za))) (t : Za), ∀ r, ZbU sub t = some r → ZbU.M sub t r := fun sub t => (Zj8 sub).1 t
theorem types_measure_l1_ok : ∀ (ZcR : Int) (ZbG : Int) (t : Za) (Zk5 : Nat) (sub : (List (ByteArray × Za))) (ZeC : (List Za)), ∀ r, Z5 ZcR ZbG t Zk5 sub ZeC = some r → Z5.M ZcR ZbG t Zk5 sub ZeC r := fun ZcR ZbG t Zk5 sub ZeC => (Zj8 sub).2 ZcR ZbG t Zk5 ZeC

def ZdB (Zes : (List ByteArray)) (r77 : ((List ByteArray))) (ZnL : Nat) (t : Za) (sub : (List (ByteArray × Za))) (ZgU : (List ByteArray)) : Option (Za) :=
 (match ZgU with
 | x92 :: ZyJ =>
 ZeN sub (Za.mk 0 (ByteArray.mk #[]) (Zk.mk ([] : List Zk)) ([] : List Za)) x92 >>= fun r95 =>
 if r95.2 = true then
 Zc8 Zes ([] : List ByteArray) r95.1 >>= fun r97 =>
 ZdB r97 r77 (ZnL + 1) t sub ZyJ
 else
 ZdB Zes r77 (ZnL + 1) t sub ZyJ
 | [] =>
 none)
 partial_fixpoint
def ZdB.M (Zes : (List ByteArray)) (r77 : ((List ByteArray))) (ZnL : Nat) (t : Za) (sub : (List (ByteArray × Za))) (ZgU : (List ByteArray)) (r : Za) : Prop :=
 ∀ Zms : List ByteArray, r77 = Zms ++ ZgU → ZnL = Zms.length → r77.length ≤ maxLen → AWL Tryz.prog 98 (Code.sub (Zq Tryz.f70) [1, 1, 0, 1, 0, 1, 0, 1, 0, 0]) (Code.cont Tryz.prog 98 (Zq Tryz.f70) [1, 1, 0, 1, 0, 1, 0, 1, 0] (ZbV tab Tryz.f70.results (ZbX (.agg [.v (.int .i64 r.fOp), .v (.string r.fName), .sl (r.fBound.fArgs.map Zk.cells), .sl (r.fKids.map Za.cells)]) [(1000, [(none, .ob 183 (sub.map (Zeb c_S Za.cells)))])]))) ⟨[(0, .c none (.rf 1000)), (3, .ptr 3 0), (4, .ptr 4 0), (7, .c (some (7, 9)) (.sl (Zes.map c_S))), (34, .c (some (34, 9)) (.sl (r77.map c_S))), (35, .c none (.v (.int .i64 ((r77.length : Nat) : Int)))), (36, .c none (.v (.int .i64 ((ZnL : Nat) : Int))))], [(3, [(none, .v (.int .i64 t.fOp)), (none, .v (.string t.fName)), (none, .sl (t.fBound.fArgs.map Zk.cells)), (none, .sl (t.fKids.map Za.cells))]), (4, [(none, .v (.int .i64 0)), (none, .v (.string (ByteArray.mk #[]))), (none, .nils), (none, .nils)]), (1000, [(none, .ob 183 (sub.map (Zeb c_S Za.cells)))])]⟩
theorem Zo1 (Zes : (List ByteArray)) (r77 : ((List ByteArray))) (ZnL : Nat) (t : Za) (sub : (List (ByteArray × Za))) (ZgU : (List ByteArray)) : ∀ r, ZdB Zes r77 ZnL t sub ZgU = some r → ZdB.M Zes r77 ZnL t sub ZgU r := by
 refine ZdB.partial_correctness r77 t sub (fun Zes ZnL ZgU r => ZdB.M Zes r77 ZnL t sub ZgU r) ?_ Zes ZnL ZgU
 intro types_subst_l1' ZjK Zes ZnL ZgU r hF
 have Zki := fun (Zes : (List ByteArray)) (_r77 : ((List ByteArray))) (ZnL : Nat) (_t : Za) (_sub : (List (ByteArray × Za))) (ZgU : (List ByteArray)) => ZjK Zes ZnL ZgU
 clear ZjK
 unfold ZdB.M
 intro Zms Zt0 Ztp hlen78
 refine AWL.step ?_
 refine AWP.seq ?_
 refine ns ?_
 refine AWP.seq ?_
 refine nw ?_
 refine ZN Zt0 Ztp (fun x92 ZyJ ZCE ZIp ZF9 => ?_) (fun ZCE => ?_)
 ·subst ZCE
  refine nw ?_
  refine AWP.seq ?_
  refine AWP.block ?_
  refine AWP.seq ?_
  refine nn ?_
  refine sr (Zab (f := c_S) rfl ZIp) ?_
  refine st ?_
  refine AWP.seq ?_
  obtain ⟨r95, ZGO, hF⟩ := bind_some hF
  refine ns ?_
  refine Zhy (m := sub) (k := x92) ZhI (ev := Za.cells) ZGO (Za.cells_eq r95.1) (fun x => Za.cells_len x) rfl rfl (ZdA (Za.cells_eq (Za.mk 0 (ByteArray.mk #[]) (Zk.mk ([] : List Zk)) ([] : List Za))) (lc (lc (ZaR WE.nil (ZaR WE.nil Zo))))) ?_
  refine st ?_
  refine AWP.seq ?_
  refine ns ?_
  refine nw ?_
  refine Zi hF (fun Zps hF => ?_) (fun Zps hF => ?_)
  ·obtain ⟨r97, ZIM, hF⟩ := bind_some hF
   refine ns ?_
   refine e3 ?_
   refine st ?_
   refine cm (Zj.weak (rn [(7, 0)]) (Zkn Zes ([] : List ByteArray) r95.1 _ ZIM) rfl (WS.mk (Zd (Zak rfl (WE.refl _)) (Zd (Zr WE.nil) (Zd (Zt (lc (lc (lc (lc Zo))))) Zc))) Zb)) ?_
   refine st ?_
   refine ns ?_
   refine AWL.weak (rn [(34, 34), (49, 7)]) ?_ (Zki r97 r77 (ZnL + 1) t sub ZyJ _ hF (Zms ++ [x92]) (by rw [Zt0]; simp) (by rw [Ztp]; simp) hlen78)
   exact (WS.mk (tc (tp (tp (Zd (Zak rfl (WE.refl _)) (Zd (Zak rfl (WE.refl _)) (tc (Zd (Zr (Zdf (ZV hlen78 ZF9))) Zc))))))) (Zf rfl (cc (cc (cc (cc Zh)))) (Zf rfl (cc (cc (cc (cc Zh)))) (Zf rfl (cc Zh) Zb))))
  ·refine nw ?_
   refine ns ?_
   refine AWL.weak (rn [(7, 7), (34, 34)]) ?_ (Zki Zes r77 (ZnL + 1) t sub ZyJ _ hF (Zms ++ [x92]) (by rw [Zt0]; simp) (by rw [Ztp]; simp) hlen78)
   exact (WS.mk (tc (tp (tp (Zd (Zak rfl (WE.refl _)) (Zd (Zak rfl (WE.refl _)) (tc (Zd (Zr (Zdf (ZV hlen78 ZF9))) Zc))))))) (Zf rfl (cc (cc (cc (cc Zh)))) (Zf rfl (cc (cc (cc (cc Zh)))) (Zf rfl (cc Zh) Zb))))
 ·subst ZCE
  refine nw ?_
  refine AWP.seq ?_
  cases hF

mutual
def ZcQ (sub : (List (ByteArray × Za))) (t : Za) : Option (Za) :=
 if (t.fOp == 1) = true then
 ZeN sub (Za.mk 0 (ByteArray.mk #[]) (Zk.mk ([] : List Zk)) ([] : List Za)) t.fName >>= fun r12 =>
 if r12.2 = true then
 Zcn r12.1 >>= fun r14 =>
 some r14
 else
 some t
 else
 if (t.fOp == 4) = true then
 Zc8 ([] : List ByteArray) ([] : List ByteArray) t >>= fun r77 =>
 ZdB ([]) r77 0 t sub r77
 else
 Zbx t 0 ([]) sub t.fKids
 partial_fixpoint
def Zbx (t : Za) (ZkV : Nat) (ZgH : (List Za)) (sub : (List (ByteArray × Za))) (ZeE : (List Za)) : Option (Za) :=
 (match ZeE with
 | Zzq :: Zzt =>
 ZcQ sub Zzq >>= fun ZzK =>
 Z4 ((ZgH.length + ([ZzK]).length) * 72 ≤ 140737488355328) >>= fun _ =>
 Zbx t (ZkV + 1) (ZgH ++ ([ZzK])) sub Zzt
 | [] =>
 some (Za.mk t.fOp t.fName t.fBound ZgH))
 partial_fixpoint
end
def ZcQ.M (sub : (List (ByteArray × Za))) (t : Za) (r : Za) : Prop :=
 Zj Tryz.prog 70 [.c none (.rf 1000), .agg [.v (.int .i64 t.fOp), .v (.string t.fName), .sl (t.fBound.fArgs.map Zk.cells), .sl (t.fKids.map Za.cells)]] [(1000, [(none, .ob 183 (sub.map (Zeb c_S Za.cells)))])] (fun d b => d = .agg [.v (.int .i64 r.fOp), .v (.string r.fName), .sl (r.fBound.fArgs.map Zk.cells), .sl (r.fKids.map Za.cells)] ∧ b = [(1000, [(none, .ob 183 (sub.map (Zeb c_S Za.cells)))])])
def Zbx.M (t : Za) (ZkV : Nat) (ZgH : (List Za)) (sub : (List (ByteArray × Za))) (ZeE : (List Za)) (r : Za) : Prop :=
 ∀ Zot : List Za, t.fKids = Zot ++ ZeE → ZkV = Zot.length → t.fKids.length ≤ maxLen → AWL Tryz.prog 98 (Code.sub (Zq Tryz.f70) [1, 1, 1, 1, 1, 0, 1, 0, 0]) (Code.cont Tryz.prog 98 (Zq Tryz.f70) [1, 1, 1, 1, 1, 0, 1, 0] (ZbV tab Tryz.f70.results (ZbX (.agg [.v (.int .i64 r.fOp), .v (.string r.fName), .sl (r.fBound.fArgs.map Zk.cells), .sl (r.fKids.map Za.cells)]) [(1000, [(none, .ob 183 (sub.map (Zeb c_S Za.cells)))])]))) ⟨[(0, .c none (.rf 1000)), (3, .ptr 3 0), (4, .ptr 4 0), (82, .c none (.sl (t.fKids.map Za.cells))), (83, .c none (.v (.int .i64 ((t.fKids.length : Nat) : Int)))), (84, .c none (.v (.int .i64 ((ZkV : Nat) : Int))))], [(3, [(none, .v (.int .i64 t.fOp)), (none, .v (.string t.fName)), (none, .sl (t.fBound.fArgs.map Zk.cells)), ((some (4153, 28)), .sl (ZgH.map Za.cells))]), (4, [(none, .v (.int .i64 0)), (none, .v (.string (ByteArray.mk #[]))), (none, .nils), (none, .nils)]), (1000, [(none, .ob 183 (sub.map (Zeb c_S Za.cells)))])]⟩
theorem ZlV (sub : (List (ByteArray × Za))) : (∀ (t : Za), ∀ r, ZcQ sub t = some r → ZcQ.M sub t r) ∧ (∀ (t : Za) (ZkV : Nat) (ZgH : (List Za)) (ZeE : (List Za)), ∀ r, Zbx t ZkV ZgH sub ZeE = some r → Zbx.M t ZkV ZgH sub ZeE r) := by
 refine ZcQ.mutual_partial_correctness sub (fun t r => ZcQ.M sub t r) (fun t ZkV ZgH ZeE r => Zbx.M t ZkV ZgH sub ZeE r) ?_ ?_
 ·intro types_subst_l2' Zez t r hF
  have Zhz := fun (t : Za) (ZkV : Nat) (ZgH : (List Za)) (_sub : (List (ByteArray × Za))) (ZeE : (List Za)) => Zez t ZkV ZgH ZeE
  clear Zez
  unfold ZcQ.M
  refine en Tryz.func70 ?_
  refine AWP.seq ?_
  refine ns ?_
  refine AWP.seq ?_
  refine AWP.seq ?_
  refine ns ?_
  refine nw ?_
  refine Zi hF (fun hc8 hF => ?_) (fun hc8 hF => ?_)
  ·refine AWP.seq ?_
   refine AWP.seq ?_
   obtain ⟨r12, Zzo, hF⟩ := bind_some hF
   refine ns ?_
   refine Zhy (m := sub) (k := t.fName) ZhI (ev := Za.cells) Zzo (Za.cells_eq r12.1) (fun x => Za.cells_len x) rfl rfl (ZdA (Za.cells_eq (Za.mk 0 (ByteArray.mk #[]) (Zk.mk ([] : List Zk)) ([] : List Za))) (lc (lc (ZaR WE.nil (ZaR WE.nil Zo))))) ?_
   refine st ?_
   refine AWP.seq ?_
   refine ns ?_
   refine nw ?_
   refine Zi hF (fun ZbD hF => ?_) (fun ZbD hF => ?_)
   ·refine AWP.seq ?_
    obtain ⟨r14, ZqL, hF⟩ := bind_some hF
    refine ns ?_
    refine e3 ?_
    refine st ?_
    refine cm (Zj.weak (rn []) (Zp8 r12.1 _ ZqL) rfl (WS.mk (Zd (Zt (lc (lc (lc (lc Zo))))) Zc) Zb)) ?_
    refine st ?_
    obtain rfl := Zg hF
    refine ns ?_
    refine Exists.intro [(1000, 1000)] ?_
    refine st ?_
    exact wx (WS.mk (Zd (Zt (lc (lc (lc (lc Zo))))) Zc) (Zf rfl (cc Zh) Zb))
   ·refine nw ?_
    refine AWP.seq ?_
    refine ns ?_
    obtain rfl := Zg hF
    refine ns ?_
    refine Exists.intro [(1000, 1000)] ?_
    refine st ?_
    exact wx (WS.mk (Zd (Zt (lc (lc (lc (lc Zo))))) Zc) (Zf rfl (cc Zh) Zb))
  ·refine nw ?_
   refine AWP.seq ?_
   refine AWP.seq ?_
   refine ns ?_
   refine nw ?_
   refine Zi hF (fun ZkT hF => ?_) (fun ZkT hF => ?_)
   ·refine AWP.seq ?_
    refine ns ?_
    refine AWP.seq ?_
    refine AWP.seq ?_
    obtain ⟨r77, ZEn, hF⟩ := bind_some hF
    refine ns ?_
    refine e3 ?_
    refine st ?_
    refine cm (Zj.weak (rn []) (Zkn ([] : List ByteArray) ([] : List ByteArray) t _ ZEn) rfl (WS.mk (Zd Zju (Zd (Zr WE.nil) (Zd (Zt (lc (lc (lc (lc Zo))))) Zc))) Zb)) ?_
    refine st ?_
    intro hlen78
    (try rw [List.length_map] at hlen78)
    (try rw [List.length_map])
    refine st ?_
    refine AWP.block ?_
    refine AWP.loop ?_
    refine AWL.weak (rn [(34, 34)]) ?_ (Zo1 ([]) r77 0 t sub r77 _ hF ([]) rfl rfl hlen78)
    exact (WS.mk (tc (tp (tp (Zd Zju (Zd (Zak rfl (WE.refl _)) (tc (tc Zc))))))) (Zf rfl (cc (cc (cc (cc Zh)))) (Zf rfl (cc (cc (cc (cc Zh)))) (Zf rfl (cc Zh) Zb))))
   ·refine nw ?_
    refine AWP.seq ?_
    refine ns ?_
    refine AWP.seq ?_
    refine ns ?_
    refine AWP.seq ?_
    refine AWP.seq ?_
    refine ns ?_
    intro hlen138
    (try rw [List.length_map] at hlen138)
    (try rw [List.length_map])
    refine st ?_
    refine AWP.block ?_
    refine AWP.loop ?_
    refine AWL.weak (rn []) ?_ (Zhz t 0 ([]) sub t.fKids _ hF ([]) rfl rfl hlen138)
    exact (WS.mk (tc (tp (tp (tc (tc (tc Zc)))))) (Zf rfl (cc (cc (cc (Znn Zh)))) (Zf rfl (cc (cc (cc (cc Zh)))) (Zf rfl (cc Zh) Zb))))
 ·intro types_subst' types_subst_l2' ZlU Zez t ZkV ZgH ZeE r hF
  have ZqX := fun (_sub : (List (ByteArray × Za))) (t : Za) => ZlU t
  clear ZlU
  have Zhz := fun (t : Za) (ZkV : Nat) (ZgH : (List Za)) (_sub : (List (ByteArray × Za))) (ZeE : (List Za)) => Zez t ZkV ZgH ZeE
  clear Zez
  unfold Zbx.M
  intro Zot Zw9 ZwW hlen138
  refine AWL.step ?_
  refine AWP.seq ?_
  refine ns ?_
  refine AWP.seq ?_
  refine nw ?_
  refine ZN Zw9 ZwW (fun Zzq Zzt ZAg ZEA ZGC => ?_) (fun ZAg => ?_)
  ·subst ZAg
   refine nw ?_
   refine AWP.seq ?_
   refine AWP.block ?_
   refine AWP.seq ?_
   refine nn ?_
   refine sr (Zab (f := Za.cells) (Za.cells_eq Zzq) ZEA) ?_
   refine st ?_
   obtain ⟨ZzK, ZFE, hF⟩ := bind_some hF
   obtain ⟨ZGf, hF⟩ := Zy hF
   refine nn ?_
   refine Or.inl (Exists.intro 6 (Exists.intro [[], [], [], [], [1000], []] (Exists.intro [([88, 89, 90, 91, 92, 93], [1000], []), ([89, 90, 91, 92, 93], [1000], []), ([88, 89, 90, 91, 92, 93], [], []), ([88, 89, 90, 91, 92, 93], [], []), ([88, 89, 92, 93], [], [1000]), ([88, 89, 93], [], [])] (Exists.intro [88, 89, 90, 91, 92, 93] (And.intro (by decide +kernel) ?_)))))
   refine dp ?_
   refine dp ?_
   refine dp ?_
   refine dp ?_
   (refine st ?_; apply Exists.intro; apply Exists.intro; apply And.intro; (focus ((conv => whnf); refine Exists.intro [(1000, 1000)] ?_; (conv => whnf); refine And.intro rfl ?_; (conv => whnf); refine Zj.mono (Zj.weak (rn []) (ZqX sub Zzq _ ZFE) rfl (WS.mk (tc (Zd (Zt (lc (lc (lc (lc Zo))))) Zc)) (Zf rfl (cc Zh) Zb))) ?_; rintro d b ⟨rfl, rfl⟩; exact And.intro rfl (And.intro rfl rfl))); apply And.intro; (focus exact rfl); (conv => whnf))
   refine de (Zbv (f := Za.cells) (ZdA (Za.cells_eq ZzK) (lc (lc (lc (lc Zo))))) (ZY (f := Za.cells))) ?_
   refine sa (fun l => ZbS l (fun x => Za.cells_len x)) ZGf ?_
   refine Exists.intro _ (And.intro (WE.refl _) ?_)
   rw [← List.map_append]
   refine st ?_
   refine ns ?_
   refine AWL.weak (rn [(94, 4153)]) ?_ (Zhz t (ZkV + 1) (ZgH ++ ([ZzK])) sub Zzt _ hF (Zot ++ [Zzq]) (by rw [Zw9]; simp) (by rw [ZwW]; simp) hlen138)
   exact (WS.mk (tc (tp (tp (tc (tc (Zd (Zr (Zdf (ZV hlen138 ZGC))) Zc)))))) (Zf rfl (cc (cc (cc (Ztr rfl (WE.refl _) Zh)))) (Zf rfl (cc (cc (cc (cc Zh)))) (Zf rfl (cc Zh) Zb))))
  ·subst ZAg
   refine nw ?_
   refine AWP.seq ?_
   refine ns ?_
   obtain rfl := Zg hF
   refine ns ?_
   refine Exists.intro [(1000, 1000)] ?_
   refine st ?_
   exact wx (WS.mk (Zd (Zt (lc (lc (lc (lc Zo))))) Zc) (Zf rfl (cc Zh) Zb))
theorem ZmR : ∀ (sub : (List (ByteArray × Za))) (t : Za), ∀ r, ZcQ sub t = some r → ZcQ.M sub t r := fun sub t => (ZlV sub).1 t
theorem types_subst_l2_ok : ∀ (t : Za) (ZkV : Nat) (ZgH : (List Za)) (sub : (List (ByteArray × Za))) (ZeE : (List Za)), ∀ r, Zbx t ZkV ZgH sub ZeE = some r → Zbx.M t ZkV ZgH sub ZeE r := fun t ZkV ZgH sub ZeE => (ZlV sub).2 t ZkV ZgH ZeE

def Zct (s : (List Ze)) (Zf2 : Nat) (t : Za) (Zbl : (List (ByteArray × Za))) (Zdq : (List Ze)) : Option (Za) :=
 (match Zdq with
 | x73 :: ZrM =>
 Za9 x73.fName >>= fun r80 =>
 (if (!r80) = true then some true else Zcj x73.fType >>= fun r81 =>
 some (r81 != 0)) >>= fun c82 =>
 if c82 = true then
 some (Za.mk 0 (ByteArray.mk #[]) (Zk.mk ([] : List Zk)) ([] : List Za))
 else
 ZeN Zbl (Za.mk 0 (ByteArray.mk #[]) (Zk.mk ([] : List Zk)) ([] : List Za)) x73.fName >>= fun r85 =>
 if (!r85.2) = true then
 Zct s (Zf2 + 1) t (ZhV Zbl x73.fName x73.fType) ZrM
 else
 Zct s (Zf2 + 1) t Zbl ZrM
 | [] =>
 ZbU Zbl t >>= fun r89 =>
 if ((decide (r89.1 > 20000)) || (decide (r89.2 > 100))) = true then
 some (Za.mk 0 (ByteArray.mk #[]) (Zk.mk ([] : List Zk)) ([] : List Za))
 else
 ZcQ Zbl t >>= fun r92 =>
 some r92)
 partial_fixpoint
def Zct.M (s : (List Ze)) (Zf2 : Nat) (t : Za) (Zbl : (List (ByteArray × Za))) (Zdq : (List Ze)) (r : Za) : Prop :=
 ∀ Zf8 : List Ze, s = Zf8 ++ Zdq → Zf2 = Zf8.length → s.length ≤ maxLen → AWL Tryz.prog 65 (Code.sub (Zq Tryz.f44) [1, 1, 1, 0, 1, 0, 0]) (Code.cont Tryz.prog 65 (Zq Tryz.f44) [1, 1, 1, 0, 1, 0] (ZbV tab Tryz.f44.results (ZbX (.agg [.v (.int .i64 r.fOp), .v (.string r.fName), .sl (r.fBound.fArgs.map Zk.cells), .sl (r.fKids.map Za.cells)]) [(1000, [(none, .ob 90 (s.map Ze.cells))])]))) ⟨[(3, .ptr 3 0), (4, .ptr 4 0), (5, .c none (.rf 16)), (17, .c none (.rs 1000 s.length)), (18, .c none (.v (.int .i64 ((s.length : Nat) : Int)))), (19, .c none (.v (.int .i64 ((Zf2 : Nat) : Int))))], [(3, [(none, .v (.int .i64 t.fOp)), (none, .v (.string t.fName)), (none, .sl (t.fBound.fArgs.map Zk.cells)), (none, .sl (t.fKids.map Za.cells))]), (4, [(none, .v (.int .i64 0)), (none, .v (.string (ByteArray.mk #[]))), (none, .nils), (none, .nils)]), (16, [(none, .ob 183 (Zbl.map (Zeb c_S Za.cells)))]), (1000, [(none, .ob 90 (s.map Ze.cells))])]⟩
theorem ZoD (s : (List Ze)) (Zf2 : Nat) (t : Za) (Zbl : (List (ByteArray × Za))) (Zdq : (List Ze)) : ∀ r, Zct s Zf2 t Zbl Zdq = some r → Zct.M s Zf2 t Zbl Zdq r := by
 refine Zct.partial_correctness s t (fun Zf2 Zbl Zdq r => Zct.M s Zf2 t Zbl Zdq r) ?_ Zf2 Zbl Zdq
 intro types_Subst_l1' ZjB Zf2 Zbl Zdq r hF
 have Zkg := fun (_s : (List Ze)) (Zf2 : Nat) (_t : Za) (Zbl : (List (ByteArray × Za))) (Zdq : (List Ze)) => ZjB Zf2 Zbl Zdq
 clear ZjB
 unfold Zct.M
 intro Zf8 ZlK Zk8 hlen45
 refine AWL.step ?_
 refine AWP.seq ?_
 refine ns ?_
 refine AWP.seq ?_
 refine nw ?_
 refine ZN ZlK Zk8 (fun x73 ZrM ZvK ZA3 Zzf => ?_) (fun ZvK => ?_)
 ·subst ZvK
  refine nw ?_
  refine AWP.seq ?_
  refine AWP.block ?_
  refine AWP.seq ?_
  refine ns ?_
  refine And.intro (ZtO ZA3) ?_
  refine st ?_
  refine sr (Zab (f := Ze.cells) (Ze.cells_eq x73) ZA3) ?_
  refine st ?_
  refine AWP.seq ?_
  refine AWP.seq ?_
  obtain ⟨r80, ZEl, hF⟩ := bind_some hF
  obtain ⟨c82, ZhG, hF⟩ := bind_some hF
  refine AWP.cutN (fun T => ∃ r, WS r T ⟨[(3, .ptr 3 0), (4, .ptr 4 0), (5, .c none (.rf 16)), (7, .ptr 7 0), (17, .c none (.rs 1000 s.length)), (18, .c none (.v (.int .i64 ((s.length : Nat) : Int)))), (19, .c none (.v (.int .i64 ((Zf2 : Nat) : Int)))), (32, .c none (.v (.bool c82)))], [(3, [(none, .v (.int .i64 t.fOp)), (none, .v (.string t.fName)), (none, .sl (t.fBound.fArgs.map Zk.cells)), (none, .sl (t.fKids.map Za.cells))]), (4, [(none, .v (.int .i64 0)), (none, .v (.string (ByteArray.mk #[]))), (none, .nils), (none, .nils)]), (7, [(none, .v (.string x73.fName)), (none, .v (.int .i64 x73.fType.fOp)), (none, .v (.string x73.fType.fName)), (none, .sl (x73.fType.fBound.fArgs.map Zk.cells)), (none, .sl (x73.fType.fKids.map Za.cells))]), (16, [(none, .ob 183 (Zbl.map (Zeb c_S Za.cells)))]), (1000, [(none, .ob 90 (s.map Ze.cells))])]⟩) ?_ (fun T hw => ?_)
  ·refine ns ?_
   refine e3 ?_
   refine st ?_
   refine cm (Zj.weak (rn []) (ZfH x73.fName _ ZEl) rfl (WS.mk (tc Zc) Zb)) ?_
   refine st ?_
   refine Zm false (fun Zkw => ?_) (fun Zkw => ?_)
   ·have ZhG := ift Zkw ZhG
    (conv => whnf)
    obtain rfl := Zg ZhG
    refine st ?_
    exact wx (WS.mk (tp (tp (tc (tp (Zd (Zr (Zae (by first | exact rfl | simp only [List.length_set]))) (tc (tc (Zd (Zr (web Zkw)) Zc)))))))) (Zf rfl (cc (cc (cc (cc Zh)))) (Zf rfl (cc (cc (cc (cc Zh)))) (Zf rfl (cc (cc (cc (cc (cc Zh))))) (Zf rfl (cc Zh) (Zf rfl (cc Zh) Zb))))))
   ·have ZhG := ife Zkw ZhG
    obtain ⟨r81, ZAI, ZhG⟩ := bind_some ZhG
    (conv => whnf)
    refine st ?_
    refine e3 ?_
    refine st ?_
    refine cm (Zj.weak (rn []) (Zfb x73.fType _ ZAI) rfl (WS.mk (Zd (Zt (lc (lc (lc (lc Zo))))) Zc) Zb)) ?_
    refine st ?_
    obtain rfl := Zg ZhG
    refine st ?_
    exact wx (WS.mk (tp (tp (tc (tp (Zd (Zr (Zae (by first | exact rfl | simp only [List.length_set]))) (tc (tc (Zd (Zr (web Zkw)) Zc)))))))) (Zf rfl (cc (cc (cc (cc Zh)))) (Zf rfl (cc (cc (cc (cc Zh)))) (Zf rfl (cc (cc (cc (cc (cc Zh))))) (Zf rfl (cc Zh) (Zf rfl (cc Zh) Zb))))))
  obtain ⟨r0, hw⟩ := hw
  (conv => whnf)
  refine AWP.weak r0 hw ?_
  refine nw ?_
  refine Zi hF (fun ZpG hF => ?_) (fun ZpG hF => ?_)
  ·refine AWP.seq ?_
   refine ns ?_
   obtain rfl := Zg hF
   refine ns ?_
   refine Exists.intro [(1000, 1000)] ?_
   refine st ?_
   exact wx (WS.mk (Zd (Zt (lc (lc (ZaR WE.nil (ZaR WE.nil Zo))))) Zc) (Zf rfl (cc Zh) Zb))
  ·refine nw ?_
   refine AWP.seq ?_
   obtain ⟨r85, ZC5, hF⟩ := bind_some hF
   refine ns ?_
   refine Zhy (m := Zbl) (k := x73.fName) ZhI (ev := Za.cells) ZC5 (Za.cells_eq r85.1) (fun x => Za.cells_len x) rfl rfl (ZdA (Za.cells_eq (Za.mk 0 (ByteArray.mk #[]) (Zk.mk ([] : List Zk)) ([] : List Za))) (lc (lc (ZaR WE.nil (ZaR WE.nil Zo))))) ?_
   refine st ?_
   refine AWP.seq ?_
   refine ns ?_
   refine nw ?_
   refine Zi hF (fun ZEk hF => ?_) (fun ZEk hF => ?_)
   ·refine ns ?_
    refine Zo9 (m := Zbl) (k := x73.fName) (v := x73.fType) ZhI (ev := Za.cells) (ZdA (Za.cells_eq x73.fType) (lc (lc (lc (lc Zo))))) ?_
    refine st ?_
    refine ns ?_
    refine AWL.weak (rn []) ?_ (Zkg s (Zf2 + 1) t (ZhV Zbl x73.fName x73.fType) ZrM _ hF (Zf8 ++ [x73]) (by rw [ZlK]; simp) (by rw [Zk8]; simp) hlen45)
    exact (WS.mk (tp (tp (tc (Zd (Zr (Zae (by first | exact rfl | simp only [List.length_set]))) (tc (Zd (Zr (Zdf (ZV hlen45 Zzf))) Zc)))))) (Zf rfl (cc (cc (cc (cc Zh)))) (Zf rfl (cc (cc (cc (cc Zh)))) (Zf rfl (cc Zh) (Zf rfl (cc Zh) Zb)))))
   ·refine nw ?_
    refine ns ?_
    refine AWL.weak (rn []) ?_ (Zkg s (Zf2 + 1) t Zbl ZrM _ hF (Zf8 ++ [x73]) (by rw [ZlK]; simp) (by rw [Zk8]; simp) hlen45)
    exact (WS.mk (tp (tp (tc (Zd (Zr (Zae (by first | exact rfl | simp only [List.length_set]))) (tc (Zd (Zr (Zdf (ZV hlen45 Zzf))) Zc)))))) (Zf rfl (cc (cc (cc (cc Zh)))) (Zf rfl (cc (cc (cc (cc Zh)))) (Zf rfl (cc Zh) (Zf rfl (cc Zh) Zb)))))
 ·subst ZvK
  refine nw ?_
  refine AWP.seq ?_
  refine AWP.seq ?_
  obtain ⟨r89, ZDG, hF⟩ := bind_some hF
  refine ns ?_
  refine Exists.intro [] (Exists.intro [(16, 1000)] (Exists.intro [] ?_))
  refine st ?_
  refine cm (Zj.weak (rn []) (Zk1 Zbl t _ ZDG) rfl (WS.mk (tc (Zd (Zt (lc (lc (lc (lc Zo))))) Zc)) (Zf rfl (cc Zh) Zb))) ?_
  refine st ?_
  refine AWP.seq ?_
  refine AWP.cutN (fun T => ∃ r, WS r T ⟨[(3, .ptr 3 0), (4, .ptr 4 0), (5, .c none (.rf 16)), (60, .c none (.v (.bool ((decide (r89.1 > 20000)) || (decide (r89.2 > 100))))))], [(3, [(none, .v (.int .i64 t.fOp)), (none, .v (.string t.fName)), (none, .sl (t.fBound.fArgs.map Zk.cells)), (none, .sl (t.fKids.map Za.cells))]), (4, [(none, .v (.int .i64 0)), (none, .v (.string (ByteArray.mk #[]))), (none, .nils), (none, .nils)]), (16, [(none, .ob 183 (Zbl.map (Zeb c_S Za.cells)))]), (1000, [(none, .ob 90 (s.map Ze.cells))])]⟩) ?_ (fun T hw => ?_)
  ·refine ns ?_
   refine Zm false (fun ZvG => ?_) (fun ZvG => ?_)
   ·(conv => whnf)
    refine st ?_
    exact wx (WS.mk (tp (tp (tc (Zd (Zr (web ZvG)) Zc)))) (Zf rfl (cc (cc (cc (cc Zh)))) (Zf rfl (cc (cc (cc (cc Zh)))) (Zf rfl (cc Zh) (Zf rfl (cc Zh) Zb)))))
   ·(conv => whnf)
    refine st ?_
    exact wx (WS.mk (tp (tp (tc (Zd (Zr (web ZvG)) Zc)))) (Zf rfl (cc (cc (cc (cc Zh)))) (Zf rfl (cc (cc (cc (cc Zh)))) (Zf rfl (cc Zh) (Zf rfl (cc Zh) Zb)))))
  obtain ⟨r0, hw⟩ := hw
  (conv => whnf)
  refine AWP.weak r0 hw ?_
  refine nw ?_
  refine Zi hF (fun ZCj hF => ?_) (fun ZCj hF => ?_)
  ·refine AWP.seq ?_
   refine ns ?_
   obtain rfl := Zg hF
   refine ns ?_
   refine Exists.intro [(1000, 1000)] ?_
   refine st ?_
   exact wx (WS.mk (Zd (Zt (lc (lc (ZaR WE.nil (ZaR WE.nil Zo))))) Zc) (Zf rfl (cc Zh) Zb))
  ·refine nw ?_
   refine AWP.seq ?_
   obtain ⟨r92, ZvR, hF⟩ := bind_some hF
   refine ns ?_
   refine Exists.intro [] (Exists.intro [(16, 1000)] (Exists.intro [] ?_))
   refine st ?_
   refine cm (Zj.weak (rn []) (ZmR Zbl t _ ZvR) rfl (WS.mk (tc (Zd (Zt (lc (lc (lc (lc Zo))))) Zc)) (Zf rfl (cc Zh) Zb))) ?_
   refine st ?_
   obtain rfl := Zg hF
   refine ns ?_
   refine Exists.intro [(1000, 1000)] ?_
   refine st ?_
   exact wx (WS.mk (Zd (Zt (lc (lc (lc (lc Zo))))) Zc) (Zf rfl (cc Zh) Zb))

def ZeO (s : (List Ze)) (t : Za) : Option (Za) :=
 Zcj t >>= fun r3 =>
 if (r3 != 0) = true then
 some (Za.mk 0 (ByteArray.mk #[]) (Zk.mk ([] : List Zk)) ([] : List Za))
 else
 Zct s 0 t ([] : List (ByteArray × Za)) s
def ZeO.M (s : (List Ze)) (t : Za) (r : Za) : Prop :=
 Zj Tryz.prog 44 [.c none (.rs 1000 s.length), .agg [.v (.int .i64 t.fOp), .v (.string t.fName), .sl (t.fBound.fArgs.map Zk.cells), .sl (t.fKids.map Za.cells)]] [(1000, [(none, .ob 90 (s.map Ze.cells))])] (fun d b => d = .agg [.v (.int .i64 r.fOp), .v (.string r.fName), .sl (r.fBound.fArgs.map Zk.cells), .sl (r.fKids.map Za.cells)] ∧ b = [(1000, [(none, .ob 90 (s.map Ze.cells))])])
theorem ZrL (s : (List Ze)) (t : Za) (r : Za) (hF : ZeO s t = some r) : ZeO.M s t r := by
 unfold ZeO at hF
 unfold ZeO.M
 refine en Tryz.func44 ?_
 refine AWP.seq ?_
 refine ns ?_
 refine AWP.seq ?_
 refine AWP.seq ?_
 obtain ⟨r3, hr3, hF⟩ := bind_some hF
 refine ns ?_
 refine e3 ?_
 refine st ?_
 refine cm (Zj.weak (rn []) (Zfb t _ hr3) rfl (WS.mk (Zd (Zt (lc (lc (lc (lc Zo))))) Zc) Zb)) ?_
 refine st ?_
 refine nw ?_
 refine Zi hF (fun hc4 hF => ?_) (fun hc4 hF => ?_)
 ·refine AWP.seq ?_
  refine ns ?_
  obtain rfl := Zg hF
  refine ns ?_
  refine Exists.intro [(1000, 1000)] ?_
  refine st ?_
  exact wx (WS.mk (Zd (Zt (lc (lc (ZaR WE.nil (ZaR WE.nil Zo))))) Zc) (Zf rfl (cc Zh) Zb))
 ·refine nw ?_
  refine AWP.seq ?_
  refine ns ?_
  refine AWP.seq ?_
  refine AWP.seq ?_
  refine ns ?_
  intro hlen45
  (try rw [List.length_map] at hlen45)
  (try rw [List.length_map])
  refine st ?_
  refine AWP.block ?_
  refine AWP.loop ?_
  refine AWL.weak (rn []) ?_ (ZoD s 0 t ([] : List (ByteArray × Za)) s _ hF ([]) rfl rfl hlen45)
  exact (WS.mk (tp (tp (tc (Zd (Zr (Zae (by first | exact rfl | simp only [List.length_set]))) (tc (tc Zc)))))) (Zf rfl (cc (cc (cc (cc Zh)))) (Zf rfl (cc (cc (cc (cc Zh)))) (Zf rfl (cc Zh) (Zf rfl (cc Zh) Zb)))))

def Zb6 (s : (List Ze)) (Zf2 : Nat) (t : Za) (Zbl : (List (ByteArray × Za))) (Zdq : (List Ze)) : Option (Za) :=
 (match Zdq with
 | x73 :: ZrM =>
 Za9 x73.fName >>= fun r80 =>
 (if (!r80) = true then some true else Zcj x73.fType >>= fun r81 =>
 some (r81 != 0)) >>= fun c82 =>
 if c82 = true then
 some (Za.mk 0 (ByteArray.mk #[]) (Zk.mk ([] : List Zk)) ([] : List Za))
 else
 ZeN Zbl (Za.mk 0 (ByteArray.mk #[]) (Zk.mk ([] : List Zk)) ([] : List Za)) x73.fName >>= fun r85 =>
 if (!r85.2) = true then
 Zb6 s (Zf2 + 1) t (ZhV Zbl x73.fName x73.fType) ZrM
 else
 Zb6 s (Zf2 + 1) t Zbl ZrM
 | [] =>
 ZbU Zbl t >>= fun r89 =>
 if ((decide (r89.1 > 20000)) || (decide (r89.2 > 100))) = true then
 some (Za.mk 0 (ByteArray.mk #[]) (Zk.mk ([] : List Zk)) ([] : List Za))
 else
 ZcQ Zbl t >>= fun r92 =>
 some r92)
 partial_fixpoint
def Zb6.M (s : (List Ze)) (Zf2 : Nat) (t : Za) (Zbl : (List (ByteArray × Za))) (Zdq : (List Ze)) (r : Za) : Prop :=
 ∀ Zf8 : List Ze, s = Zf8 ++ Zdq → Zf2 = Zf8.length → s.length ≤ maxLen → AWL Tryz.prog 65 (Code.sub (Zq Tryz.f44) [1, 1, 1, 0, 1, 0, 0]) (Code.cont Tryz.prog 65 (Zq Tryz.f44) [1, 1, 1, 0, 1, 0] (ZbV tab Tryz.f44.results (ZbX (.agg [.v (.int .i64 r.fOp), .v (.string r.fName), .sl (r.fBound.fArgs.map Zk.cells), .sl (r.fKids.map Za.cells)]) []))) ⟨[(3, .ptr 3 0), (4, .ptr 4 0), (5, .c none (.rf 16)), (17, .c none (.sl (s.map Ze.cells))), (18, .c none (.v (.int .i64 ((s.length : Nat) : Int)))), (19, .c none (.v (.int .i64 ((Zf2 : Nat) : Int))))], [(3, [(none, .v (.int .i64 t.fOp)), (none, .v (.string t.fName)), (none, .sl (t.fBound.fArgs.map Zk.cells)), (none, .sl (t.fKids.map Za.cells))]), (4, [(none, .v (.int .i64 0)), (none, .v (.string (ByteArray.mk #[]))), (none, .nils), (none, .nils)]), (16, [(none, .ob 183 (Zbl.map (Zeb c_S Za.cells)))])]⟩
theorem Zob (s : (List Ze)) (Zf2 : Nat) (t : Za) (Zbl : (List (ByteArray × Za))) (Zdq : (List Ze)) : ∀ r, Zb6 s Zf2 t Zbl Zdq = some r → Zb6.M s Zf2 t Zbl Zdq r := by
 refine Zb6.partial_correctness s t (fun Zf2 Zbl Zdq r => Zb6.M s Zf2 t Zbl Zdq r) ?_ Zf2 Zbl Zdq
 intro types_Subst__l1' ZiS Zf2 Zbl Zdq r hF
 have ZjO := fun (_s : (List Ze)) (Zf2 : Nat) (_t : Za) (Zbl : (List (ByteArray × Za))) (Zdq : (List Ze)) => ZiS Zf2 Zbl Zdq
 clear ZiS
 unfold Zb6.M
 intro Zf8 ZlK Zk8 hlen45
 refine AWL.step ?_
 refine AWP.seq ?_
 refine ns ?_
 refine AWP.seq ?_
 refine nw ?_
 refine ZN ZlK Zk8 (fun x73 ZrM ZvK ZA3 Zzf => ?_) (fun ZvK => ?_)
 ·subst ZvK
  refine nw ?_
  refine AWP.seq ?_
  refine AWP.block ?_
  refine AWP.seq ?_
  refine nn ?_
  refine sr (Zab (f := Ze.cells) (Ze.cells_eq x73) ZA3) ?_
  refine st ?_
  refine AWP.seq ?_
  refine AWP.seq ?_
  obtain ⟨r80, ZEl, hF⟩ := bind_some hF
  obtain ⟨c82, ZhG, hF⟩ := bind_some hF
  refine AWP.cutN (fun T => ∃ r, WS r T ⟨[(3, .ptr 3 0), (4, .ptr 4 0), (5, .c none (.rf 16)), (7, .ptr 7 0), (17, .c none (.sl (s.map Ze.cells))), (18, .c none (.v (.int .i64 ((s.length : Nat) : Int)))), (19, .c none (.v (.int .i64 ((Zf2 : Nat) : Int)))), (32, .c none (.v (.bool c82)))], [(3, [(none, .v (.int .i64 t.fOp)), (none, .v (.string t.fName)), (none, .sl (t.fBound.fArgs.map Zk.cells)), (none, .sl (t.fKids.map Za.cells))]), (4, [(none, .v (.int .i64 0)), (none, .v (.string (ByteArray.mk #[]))), (none, .nils), (none, .nils)]), (7, [(none, .v (.string x73.fName)), (none, .v (.int .i64 x73.fType.fOp)), (none, .v (.string x73.fType.fName)), (none, .sl (x73.fType.fBound.fArgs.map Zk.cells)), (none, .sl (x73.fType.fKids.map Za.cells))]), (16, [(none, .ob 183 (Zbl.map (Zeb c_S Za.cells)))])]⟩) ?_ (fun T hw => ?_)
  ·refine ns ?_
   refine e3 ?_
   refine st ?_
   refine cm (Zj.weak (rn []) (ZfH x73.fName _ ZEl) rfl (WS.mk (tc Zc) Zb)) ?_
   refine st ?_
   refine Zm false (fun Zkw => ?_) (fun Zkw => ?_)
   ·have ZhG := ift Zkw ZhG
    (conv => whnf)
    obtain rfl := Zg ZhG
    refine st ?_
    exact wx (WS.mk (tp (tp (tc (tp (tc (tc (tc (Zd (Zr (web Zkw)) Zc)))))))) (Zf rfl (cc (cc (cc (cc Zh)))) (Zf rfl (cc (cc (cc (cc Zh)))) (Zf rfl (cc (cc (cc (cc (cc Zh))))) (Zf rfl (cc Zh) Zb)))))
   ·have ZhG := ife Zkw ZhG
    obtain ⟨r81, ZAI, ZhG⟩ := bind_some ZhG
    (conv => whnf)
    refine st ?_
    refine e3 ?_
    refine st ?_
    refine cm (Zj.weak (rn []) (Zfb x73.fType _ ZAI) rfl (WS.mk (Zd (Zt (lc (lc (lc (lc Zo))))) Zc) Zb)) ?_
    refine st ?_
    obtain rfl := Zg ZhG
    refine st ?_
    exact wx (WS.mk (tp (tp (tc (tp (tc (tc (tc (Zd (Zr (web Zkw)) Zc)))))))) (Zf rfl (cc (cc (cc (cc Zh)))) (Zf rfl (cc (cc (cc (cc Zh)))) (Zf rfl (cc (cc (cc (cc (cc Zh))))) (Zf rfl (cc Zh) Zb)))))
  obtain ⟨r0, hw⟩ := hw
  (conv => whnf)
  refine AWP.weak r0 hw ?_
  refine nw ?_
  refine Zi hF (fun ZpG hF => ?_) (fun ZpG hF => ?_)
  ·refine AWP.seq ?_
   refine ns ?_
   obtain rfl := Zg hF
   refine ns ?_
   refine Exists.intro [] ?_
   refine st ?_
   exact wx (WS.mk (Zd (Zt (lc (lc (ZaR WE.nil (ZaR WE.nil Zo))))) Zc) Zb)
  ·refine nw ?_
   refine AWP.seq ?_
   obtain ⟨r85, ZC5, hF⟩ := bind_some hF
   refine ns ?_
   refine Zhy (m := Zbl) (k := x73.fName) ZhI (ev := Za.cells) ZC5 (Za.cells_eq r85.1) (fun x => Za.cells_len x) rfl rfl (ZdA (Za.cells_eq (Za.mk 0 (ByteArray.mk #[]) (Zk.mk ([] : List Zk)) ([] : List Za))) (lc (lc (ZaR WE.nil (ZaR WE.nil Zo))))) ?_
   refine st ?_
   refine AWP.seq ?_
   refine ns ?_
   refine nw ?_
   refine Zi hF (fun ZEk hF => ?_) (fun ZEk hF => ?_)
   ·refine ns ?_
    refine Zo9 (m := Zbl) (k := x73.fName) (v := x73.fType) ZhI (ev := Za.cells) (ZdA (Za.cells_eq x73.fType) (lc (lc (lc (lc Zo))))) ?_
    refine st ?_
    refine ns ?_
    refine AWL.weak (rn []) ?_ (ZjO s (Zf2 + 1) t (ZhV Zbl x73.fName x73.fType) ZrM _ hF (Zf8 ++ [x73]) (by rw [ZlK]; simp) (by rw [Zk8]; simp) hlen45)
    exact (WS.mk (tp (tp (tc (tc (tc (Zd (Zr (Zdf (ZV hlen45 Zzf))) Zc)))))) (Zf rfl (cc (cc (cc (cc Zh)))) (Zf rfl (cc (cc (cc (cc Zh)))) (Zf rfl (cc Zh) Zb))))
   ·refine nw ?_
    refine ns ?_
    refine AWL.weak (rn []) ?_ (ZjO s (Zf2 + 1) t Zbl ZrM _ hF (Zf8 ++ [x73]) (by rw [ZlK]; simp) (by rw [Zk8]; simp) hlen45)
    exact (WS.mk (tp (tp (tc (tc (tc (Zd (Zr (Zdf (ZV hlen45 Zzf))) Zc)))))) (Zf rfl (cc (cc (cc (cc Zh)))) (Zf rfl (cc (cc (cc (cc Zh)))) (Zf rfl (cc Zh) Zb))))
 ·subst ZvK
  refine nw ?_
  refine AWP.seq ?_
  refine AWP.seq ?_
  obtain ⟨r89, ZDG, hF⟩ := bind_some hF
  refine ns ?_
  refine Exists.intro [] (Exists.intro [(16, 1000)] (Exists.intro [] ?_))
  refine st ?_
  refine cm (Zj.weak (rn []) (Zk1 Zbl t _ ZDG) rfl (WS.mk (tc (Zd (Zt (lc (lc (lc (lc Zo))))) Zc)) (Zf rfl (cc Zh) Zb))) ?_
  refine st ?_
  refine AWP.seq ?_
  refine AWP.cutN (fun T => ∃ r, WS r T ⟨[(3, .ptr 3 0), (4, .ptr 4 0), (5, .c none (.rf 16)), (60, .c none (.v (.bool ((decide (r89.1 > 20000)) || (decide (r89.2 > 100))))))], [(3, [(none, .v (.int .i64 t.fOp)), (none, .v (.string t.fName)), (none, .sl (t.fBound.fArgs.map Zk.cells)), (none, .sl (t.fKids.map Za.cells))]), (4, [(none, .v (.int .i64 0)), (none, .v (.string (ByteArray.mk #[]))), (none, .nils), (none, .nils)]), (16, [(none, .ob 183 (Zbl.map (Zeb c_S Za.cells)))])]⟩) ?_ (fun T hw => ?_)
  ·refine ns ?_
   refine Zm false (fun ZvG => ?_) (fun ZvG => ?_)
   ·(conv => whnf)
    refine st ?_
    exact wx (WS.mk (tp (tp (tc (Zd (Zr (web ZvG)) Zc)))) (Zf rfl (cc (cc (cc (cc Zh)))) (Zf rfl (cc (cc (cc (cc Zh)))) (Zf rfl (cc Zh) Zb))))
   ·(conv => whnf)
    refine st ?_
    exact wx (WS.mk (tp (tp (tc (Zd (Zr (web ZvG)) Zc)))) (Zf rfl (cc (cc (cc (cc Zh)))) (Zf rfl (cc (cc (cc (cc Zh)))) (Zf rfl (cc Zh) Zb))))
  obtain ⟨r0, hw⟩ := hw
  (conv => whnf)
  refine AWP.weak r0 hw ?_
  refine nw ?_
  refine Zi hF (fun ZCj hF => ?_) (fun ZCj hF => ?_)
  ·refine AWP.seq ?_
   refine ns ?_
   obtain rfl := Zg hF
   refine ns ?_
   refine Exists.intro [] ?_
   refine st ?_
   exact wx (WS.mk (Zd (Zt (lc (lc (ZaR WE.nil (ZaR WE.nil Zo))))) Zc) Zb)
  ·refine nw ?_
   refine AWP.seq ?_
   obtain ⟨r92, ZvR, hF⟩ := bind_some hF
   refine ns ?_
   refine Exists.intro [] (Exists.intro [(16, 1000)] (Exists.intro [] ?_))
   refine st ?_
   refine cm (Zj.weak (rn []) (ZmR Zbl t _ ZvR) rfl (WS.mk (tc (Zd (Zt (lc (lc (lc (lc Zo))))) Zc)) (Zf rfl (cc Zh) Zb))) ?_
   refine st ?_
   obtain rfl := Zg hF
   refine ns ?_
   refine Exists.intro [] ?_
   refine st ?_
   exact wx (WS.mk (Zd (Zt (lc (lc (lc (lc Zo))))) Zc) Zb)

def Zee (s : (List Ze)) (t : Za) : Option (Za) :=
 Zcj t >>= fun r3 =>
 if (r3 != 0) = true then
 some (Za.mk 0 (ByteArray.mk #[]) (Zk.mk ([] : List Zk)) ([] : List Za))
 else
 Zb6 s 0 t ([] : List (ByteArray × Za)) s
def Zee.M (s : (List Ze)) (t : Za) (r : Za) : Prop :=
 Zj Tryz.prog 44 [.c none (.sl (s.map Ze.cells)), .agg [.v (.int .i64 t.fOp), .v (.string t.fName), .sl (t.fBound.fArgs.map Zk.cells), .sl (t.fKids.map Za.cells)]] [] (fun d b => d = .agg [.v (.int .i64 r.fOp), .v (.string r.fName), .sl (r.fBound.fArgs.map Zk.cells), .sl (r.fKids.map Za.cells)] ∧ b = [])
theorem Zqc (s : (List Ze)) (t : Za) (r : Za) (hF : Zee s t = some r) : Zee.M s t r := by
 unfold Zee at hF
 unfold Zee.M
 refine en Tryz.func44 ?_
 refine AWP.seq ?_
 refine ns ?_
 refine AWP.seq ?_
 refine AWP.seq ?_
 obtain ⟨r3, hr3, hF⟩ := bind_some hF
 refine ns ?_
 refine e3 ?_
 refine st ?_
 refine cm (Zj.weak (rn []) (Zfb t _ hr3) rfl (WS.mk (Zd (Zt (lc (lc (lc (lc Zo))))) Zc) Zb)) ?_
 refine st ?_
 refine nw ?_
 refine Zi hF (fun hc4 hF => ?_) (fun hc4 hF => ?_)
 ·refine AWP.seq ?_
  refine ns ?_
  obtain rfl := Zg hF
  refine ns ?_
  refine Exists.intro [] ?_
  refine st ?_
  exact wx (WS.mk (Zd (Zt (lc (lc (ZaR WE.nil (ZaR WE.nil Zo))))) Zc) Zb)
 ·refine nw ?_
  refine AWP.seq ?_
  refine ns ?_
  refine AWP.seq ?_
  refine AWP.seq ?_
  refine ns ?_
  intro hlen45
  (try rw [List.length_map] at hlen45)
  (try rw [List.length_map])
  refine st ?_
  refine AWP.block ?_
  refine AWP.loop ?_
  refine AWL.weak (rn []) ?_ (Zob s 0 t ([] : List (ByteArray × Za)) s _ hF ([]) rfl rfl hlen45)
  exact (WS.mk (tp (tp (tc (tc (tc (tc Zc)))))) (Zf rfl (cc (cc (cc (cc Zh)))) (Zf rfl (cc (cc (cc (cc Zh)))) (Zf rfl (cc Zh) Zb))))

def ZbF (s : (List Ze)) (name_ : ByteArray) (i_6 : Nat) (Zep : (List Ze)) : Option (Za × Bool) :=
 (match Zep with
 | x39 :: Zvv =>
 if (x39.fName.toList == name_.toList) = true then
 some (x39.fType, true)
 else
 ZbF s name_ (i_6 + 1) Zvv
 | [] =>
 some (Za.mk 0 (ByteArray.mk #[]) (Zk.mk ([] : List Zk)) ([] : List Za), false))
 partial_fixpoint
def ZbF.M (s : (List Ze)) (name_ : ByteArray) (i_6 : Nat) (Zep : (List Ze)) (r : Za × Bool) : Prop :=
 ∀ Zje : List Ze, s = Zje ++ Zep → i_6 = Zje.length → AWL Tryz.prog 26 (Code.sub (Zq Tryz.f61) [1, 0, 1, 0, 0]) (Code.cont Tryz.prog 26 (Zq Tryz.f61) [1, 0, 1, 0] (ZbV tab Tryz.f61.results (ZbX (.tup [.agg [.v (.int .i64 r.1.fOp), .v (.string r.1.fName), .sl (r.1.fBound.fArgs.map Zk.cells), .sl (r.1.fKids.map Za.cells)], .c (.v (.bool r.2))]) []))) ⟨[(0, .c none (.sl (s.map Ze.cells))), (1, .c none (.v (.string name_))), (4, .ptr 4 0), (6, .c none (.v (.int .i64 ((i_6 : Nat) : Int))))], [(4, [(none, .v (.int .i64 0)), (none, .v (.string (ByteArray.mk #[]))), (none, .nils), (none, .nils)])]⟩
theorem Zl4 (s : (List Ze)) (name_ : ByteArray) (i_6 : Nat) (Zep : (List Ze)) : ∀ r, ZbF s name_ i_6 Zep = some r → ZbF.M s name_ i_6 Zep r := by
 refine ZbF.partial_correctness s name_ (fun i_6 Zep r => ZbF.M s name_ i_6 Zep r) ?_ i_6 Zep
 intro lazycref04_Find_l1' ZhN i_6 Zep r hF
 have Zl9 := fun (_s : (List Ze)) (_name_ : ByteArray) (i_6 : Nat) (Zep : (List Ze)) => ZhN i_6 Zep
 clear ZhN
 unfold ZbF.M
 intro Zje Zq9 Zrh
 refine AWL.step ?_
 refine AWP.seq ?_
 refine AWP.seq ?_
 refine ns ?_
 intro hlen38
 (try rw [List.length_map] at hlen38)
 (try rw [List.length_map])
 refine st ?_
 refine nw ?_
 refine ZN Zq9 Zrh (fun x39 Zvv ZvB ZA2 ZDj => ?_) (fun ZvB => ?_)
 ·subst ZvB
  refine nw ?_
  refine AWP.seq ?_
  refine AWP.block ?_
  refine AWP.seq ?_
  refine nn ?_
  refine sr (Zab (f := Ze.cells) (Ze.cells_eq x39) ZA2) ?_
  refine st ?_
  refine nw ?_
  refine Zi hF (fun Zwb hF => ?_) (fun Zwb hF => ?_)
  ·refine AWP.seq ?_
   refine nn ?_
   refine sr (Zab (f := Ze.cells) (Ze.cells_eq x39) ZA2) ?_
   refine st ?_
   obtain rfl := Zg hF
   refine ns ?_
   refine Exists.intro [] ?_
   refine st ?_
   exact wx (WS.mk (Zd (Zc9 (Zza (lc (lc (lc (lc Zo)))) (ZcC (WE.refl _) Zc6))) Zc) Zb)
  ·refine nw ?_
   refine ns ?_
   refine AWL.weak (rn []) ?_ (Zl9 s name_ (i_6 + 1) Zvv _ hF (Zje ++ [x39]) (by rw [Zq9]; simp) (by rw [Zrh]; simp))
   exact (WS.mk (tc (tc (tp (Zd (Zr (Zdf (ZV hlen38 ZDj))) Zc)))) (Zf rfl (cc (cc (cc (cc Zh)))) Zb))
 ·subst ZvB
  refine nw ?_
  refine AWP.seq ?_
  refine ns ?_
  obtain rfl := Zg hF
  refine ns ?_
  refine Exists.intro [] ?_
  refine st ?_
  exact wx (WS.mk (Zd (Zc9 (Zza (lc (lc (ZaR WE.nil (ZaR WE.nil Zo)))) (ZcC (WE.refl _) Zc6))) Zc) Zb)

def Zb3 (s : (List Ze)) (name_ : ByteArray) : Option (Za × Bool) :=
 ZbF s name_ 0 s
def Zb3.M (s : (List Ze)) (name_ : ByteArray) (r : Za × Bool) : Prop :=
 Zj Tryz.prog 61 [.c none (.sl (s.map Ze.cells)), .c none (.v (.string name_))] [] (fun d b => d = .tup [.agg [.v (.int .i64 r.1.fOp), .v (.string r.1.fName), .sl (r.1.fBound.fArgs.map Zk.cells), .sl (r.1.fKids.map Za.cells)], .c (.v (.bool r.2))] ∧ b = [])
theorem Zg1 (s : (List Ze)) (name_ : ByteArray) (r : Za × Bool) (hF : Zb3 s name_ = some r) : Zb3.M s name_ r := by
 unfold Zb3 at hF
 unfold Zb3.M
 refine en Tryz.func61 ?_
 refine AWP.seq ?_
 refine ns ?_
 refine AWP.seq ?_
 refine AWP.seq ?_
 refine ns ?_
 refine AWP.block ?_
 refine AWP.loop ?_
 refine AWL.weak (rn []) ?_ (Zl4 s name_ 0 s _ hF ([]) rfl rfl)
 exact (WS.mk (tc (tc (tp (tc Zc)))) (Zf rfl (cc (cc (cc (cc Zh)))) Zb))

mutual
def ZaF (s : (List Ze)) (Z3 : (List ByteArray)) (t : Za) : Option (Int × Int) :=
 (if (t.fOp == 1) = true then ZbE Z3 t.fName >>= fun r53 =>
 some (!r53) else some false) >>= fun c54 =>
 if c54 = true then
 Zb3 s t.fName >>= fun r57 =>
 if r57.2 = true then
 ZaN r57.1 >>= fun r61 =>
 ZaG r57.1 >>= fun r62 =>
 some (r61, r62)
 else
 Z9 s Z3 t
 else
 Z9 s Z3 t
 partial_fixpoint
def Z9 (s : (List Ze)) (Z3 : (List ByteArray)) (t : Za) : Option (Int × Int) :=
 if (t.fOp == 4) = true then
 Z4 ((0 + Z3.length) * 16 ≤ 140737488355328) >>= fun _ =>
 Z4 ((Z3.length + ([t.fName]).length) * 16 ≤ 140737488355328) >>= fun _ =>
 Z7 s (Z3 ++ ([t.fName])) t
 else
 Z7 s Z3 t
 partial_fixpoint
def Z7 (s : (List Ze)) (ZA : (List ByteArray)) (t : Za) : Option (Int × Int) :=
 ZW s ZA 1 0 0 t t.fKids
 partial_fixpoint
def ZW (s : (List Ze)) (ZA : (List ByteArray)) (Zd5 : Int) (Zc4 : Int) (Zge : Nat) (t : Za) (ZcG : (List Za)) : Option (Int × Int) :=
 (match ZcG with
 | x46 :: ZDp =>
 ZaF s ZA x46 >>= fun r49 =>
 ZW s ZA (IntKind.i64.wrap (Zd5 + r49.1)) (if r49.2 > Zc4 then r49.2 else Zc4) (Zge + 1) t ZDp
 | [] =>
 some (Zd5, IntKind.i64.wrap (Zc4 + 1)))
 partial_fixpoint
end
def ZaF.M (s : (List Ze)) (Z3 : (List ByteArray)) (t : Za) (r : Int × Int) : Prop :=
 Zj Tryz.prog 38 [.c none (.sl (s.map Ze.cells)), .c none (.sl (Z3.map c_S)), .agg [.v (.int .i64 t.fOp), .v (.string t.fName), .sl (t.fBound.fArgs.map Zk.cells), .sl (t.fKids.map Za.cells)]] [] (fun d b => d = .tup [.c (.v (.int .i64 r.1)), .c (.v (.int .i64 r.2))] ∧ b = [])
def Z9.M (s : (List Ze)) (Z3 : (List ByteArray)) (t : Za) (r : Int × Int) : Prop :=
 AWP Tryz.prog 77 (Code.sub (Zq Tryz.f38) [1, 1]) (Code.cont Tryz.prog 77 (Zq Tryz.f38) [1, 1] (ZbV tab Tryz.f38.results (ZbX (.tup [.c (.v (.int .i64 r.1)), .c (.v (.int .i64 r.2))]) []))) ⟨[(0, .c none (.sl (s.map Ze.cells))), (1, .c none (.sl (Z3.map c_S))), (5, .ptr 5 0)], [(5, [(none, .v (.int .i64 t.fOp)), (none, .v (.string t.fName)), (none, .sl (t.fBound.fArgs.map Zk.cells)), (none, .sl (t.fKids.map Za.cells))])]⟩
def Z7.M (s : (List Ze)) (ZA : (List ByteArray)) (t : Za) (r : Int × Int) : Prop :=
 AWP Tryz.prog 77 (Code.sub (Zq Tryz.f38) [1, 1, 1]) (Code.cont Tryz.prog 77 (Zq Tryz.f38) [1, 1, 1] (ZbV tab Tryz.f38.results (ZbX (.tup [.c (.v (.int .i64 r.1)), .c (.v (.int .i64 r.2))]) []))) ⟨[(0, .c none (.sl (s.map Ze.cells))), (1, .c none (.sl (ZA.map c_S))), (5, .ptr 5 0)], [(5, [(none, .v (.int .i64 t.fOp)), (none, .v (.string t.fName)), (none, .sl (t.fBound.fArgs.map Zk.cells)), (none, .sl (t.fKids.map Za.cells))])]⟩
def ZW.M (s : (List Ze)) (ZA : (List ByteArray)) (Zd5 : Int) (Zc4 : Int) (Zge : Nat) (t : Za) (ZcG : (List Za)) (r : Int × Int) : Prop :=
 ∀ Zhu : List Za, t.fKids = Zhu ++ ZcG → Zge = Zhu.length → AWL Tryz.prog 77 (Code.sub (Zq Tryz.f38) [1, 1, 1, 1, 0, 1, 0, 0]) (Code.cont Tryz.prog 77 (Zq Tryz.f38) [1, 1, 1, 1, 0, 1, 0] (ZbV tab Tryz.f38.results (ZbX (.tup [.c (.v (.int .i64 r.1)), .c (.v (.int .i64 r.2))]) []))) ⟨[(0, .c none (.sl (s.map Ze.cells))), (1, .c none (.sl (ZA.map c_S))), (5, .ptr 5 0), (11, .c none (.v (.int .i64 Zd5))), (12, .c none (.v (.int .i64 Zc4))), (13, .c none (.v (.int .i64 ((Zge : Nat) : Int))))], [(5, [(none, .v (.int .i64 t.fOp)), (none, .v (.string t.fName)), (none, .sl (t.fBound.fArgs.map Zk.cells)), (none, .sl (t.fKids.map Za.cells))])]⟩
theorem Zei (s : (List Ze)) : (∀ (Z3 : (List ByteArray)) (t : Za), ∀ r, ZaF s Z3 t = some r → ZaF.M s Z3 t r) ∧ (∀ (Z3 : (List ByteArray)) (t : Za), ∀ r, Z9 s Z3 t = some r → Z9.M s Z3 t r) ∧ (∀ (ZA : (List ByteArray)) (t : Za), ∀ r, Z7 s ZA t = some r → Z7.M s ZA t r) ∧ (∀ (ZA : (List ByteArray)) (Zd5 : Int) (Zc4 : Int) (Zge : Nat) (t : Za) (ZcG : (List Za)), ∀ r, ZW s ZA Zd5 Zc4 Zge t ZcG = some r → ZW.M s ZA Zd5 Zc4 Zge t ZcG r) := by
 refine ZaF.mutual_partial_correctness s (fun Z3 t r => ZaF.M s Z3 t r) (fun Z3 t r => Z9.M s Z3 t r) (fun ZA t r => Z7.M s ZA t r) (fun ZA Zd5 Zc4 Zge t ZcG r => ZW.M s ZA Zd5 Zc4 Zge t ZcG r) ?_ ?_ ?_ ?_
 ·intro lazycref04_measure_k1' Zgm Z3 t r hF
  have ZgN := fun (_s : (List Ze)) (Z3 : (List ByteArray)) (t : Za) => Zgm Z3 t
  clear Zgm
  unfold ZaF.M
  refine en Tryz.func38 ?_
  refine AWP.seq ?_
  refine ns ?_
  refine AWP.seq ?_
  refine AWP.seq ?_
  obtain ⟨c54, Zix, hF⟩ := bind_some hF
  refine AWP.cutN (fun T => ∃ r, WS r T ⟨[(0, .c none (.sl (s.map Ze.cells))), (1, .c none (.sl (Z3.map c_S))), (5, .ptr 5 0), (25, .c none (.v (.bool c54)))], [(5, [(none, .v (.int .i64 t.fOp)), (none, .v (.string t.fName)), (none, .sl (t.fBound.fArgs.map Zk.cells)), (none, .sl (t.fKids.map Za.cells))])]⟩) ?_ (fun T hw => ?_)
  ·refine ns ?_
   refine Zm true (fun Ztv => ?_) (fun Ztv => ?_)
   ·have Zix := ift Ztv Zix
    obtain ⟨r53, ZyH, Zix⟩ := bind_some Zix
    (conv => whnf)
    refine st ?_
    refine e3 ?_
    refine st ?_
    refine cm (Zj.weak (rn []) (ZeU Z3 t.fName _ ZyH) rfl (WS.mk (tc (tc Zc)) Zb)) ?_
    refine st ?_
    obtain rfl := Zg Zix
    refine st ?_
    exact wx (WS.mk (tc (tc (tp (Zd (Zr (web Ztv)) Zc)))) (Zf rfl (cc (cc (cc (cc Zh)))) Zb))
   ·have Zix := ife Ztv Zix
    (conv => whnf)
    obtain rfl := Zg Zix
    refine st ?_
    exact wx (WS.mk (tc (tc (tp (Zd (Zr (web Ztv)) Zc)))) (Zf rfl (cc (cc (cc (cc Zh)))) Zb))
  obtain ⟨r0, hw⟩ := hw
  (conv => whnf)
  refine AWP.weak r0 hw ?_
  refine nw ?_
  refine Zi hF (fun ZkT hF => ?_) (fun ZkT hF => ?_)
  ·refine AWP.seq ?_
   obtain ⟨r57, ZHr, hF⟩ := bind_some hF
   refine ns ?_
   refine e3 ?_
   refine st ?_
   refine cm (Zj.weak (rn []) (Zg1 s t.fName _ ZHr) rfl (WS.mk (tc (tc Zc)) Zb)) ?_
   refine st ?_
   refine AWP.seq ?_
   refine ns ?_
   refine nw ?_
   refine Zi hF (fun Zm8 hF => ?_) (fun Zm8 hF => ?_)
   ·refine AWP.seq ?_
    obtain ⟨r61, Zy9, hF⟩ := bind_some hF
    obtain ⟨r62, ZDq, hF⟩ := bind_some hF
    refine nn ?_
    refine Or.inr (Exists.intro [2] (Exists.intro [[36]] (Exists.intro [8] (Exists.intro [8, 36] (Exists.intro [36] (Exists.intro [0, 1, 3, 4, 5] (And.intro (by decide +kernel) ?_)))))))
    refine dp ?_
    refine st ?_
    refine e3 ?_
    refine st ?_
    refine cm (Zj.weak (rn []) (ZgZ r57.1 _ Zy9) rfl (WS.mk (Zd (Zt (lc (lc (lc (lc Zo))))) Zc) Zb)) ?_
    refine st ?_
    refine e3 ?_
    refine st ?_
    refine cm (Zj.weak (rn []) (Zgy r57.1 _ ZDq) rfl (WS.mk (Zd (Zt (lc (lc (lc (lc Zo))))) Zc) Zb)) ?_
    refine st ?_
    obtain rfl := Zg hF
    refine ns ?_
    refine Exists.intro [] ?_
    refine st ?_
    exact wx (WS.mk (Zd (Zc9 (ZcC (WE.refl _) (ZcC (WE.refl _) Zc6))) Zc) Zb)
   ·refine nw ?_
    refine AWP.weak (rn []) ?_ (ZgN s Z3 t _ hF)
    exact (WS.mk (tc (tc (tp Zc))) (Zf rfl (cc (cc (cc (cc Zh)))) Zb))
  ·refine nw ?_
   refine AWP.weak (rn []) ?_ (ZgN s Z3 t _ hF)
   exact (WS.mk (tc (tc (tp Zc))) (Zf rfl (cc (cc (cc (cc Zh)))) Zb))
 ·intro lazycref04_measure_k2' Zgj Z3 t r hF
  have ZgL := fun (_s : (List Ze)) (ZA : (List ByteArray)) (t : Za) => Zgj ZA t
  clear Zgj
  unfold Z9.M
  refine AWP.seq ?_
  refine AWP.seq ?_
  refine ns ?_
  refine nw ?_
  refine Zi hF (fun ZCC hF => ?_) (fun ZCC hF => ?_)
  ·refine AWP.seq ?_
   refine ns ?_
   refine AWP.seq ?_
   obtain ⟨ZH3, hF⟩ := Zy hF
   refine nn ?_
   refine sa (fun l => ZbS l (fun x => ZfN x)) ZH3 ?_
   refine Exists.intro _ (And.intro (WE.refl _) ?_)
   (try rw [List.nil_append])
   refine st ?_
   refine AWP.seq ?_
   obtain ⟨ZH2, hF⟩ := Zy hF
   refine ns ?_
   refine Exists.intro _ (And.intro (Zbv (f := c_S) (lc Zo) (ZY (f := c_S))) ?_)
   refine sa (fun l => ZbS l (fun x => ZfN x)) ZH2 ?_
   refine Exists.intro _ (And.intro (WE.refl _) ?_)
   rw [← List.map_append]
   refine st ?_
   refine ns ?_
   refine AWP.weak (rn []) ?_ (ZgL s (Z3 ++ ([t.fName])) t _ hF)
   exact (WS.mk (tc (tc (tp Zc))) (Zf rfl (cc (cc (cc (cc Zh)))) Zb))
  ·refine nw ?_
   refine AWP.weak (rn []) ?_ (ZgL s Z3 t _ hF)
   exact (WS.mk (tc (tc (tp Zc))) (Zf rfl (cc (cc (cc (cc Zh)))) Zb))
 ·intro lazycref04_measure_l3' Zc5 ZA t r hF
  have ZeX := fun (_s : (List Ze)) (ZA : (List ByteArray)) (Zd5 : Int) (Zc4 : Int) (Zge : Nat) (t : Za) (ZcG : (List Za)) => Zc5 ZA Zd5 Zc4 Zge t ZcG
  clear Zc5
  unfold Z7.M
  refine AWP.seq ?_
  refine ns ?_
  refine AWP.seq ?_
  refine AWP.seq ?_
  refine ns ?_
  refine AWP.block ?_
  refine AWP.loop ?_
  refine AWL.weak (rn []) ?_ (ZeX s ZA 1 0 0 t t.fKids _ hF ([]) rfl rfl)
  exact (WS.mk (tc (tc (tp (tc (tc (tc Zc)))))) (Zf rfl (cc (cc (cc (cc Zh)))) Zb))
 ·intro lazycref04_measure' lazycref04_measure_l3' ZhP Zc5 ZA Zd5 Zc4 Zge t ZcG r hF
  have Zmf := fun (_s : (List Ze)) (Z3 : (List ByteArray)) (t : Za) => ZhP Z3 t
  clear ZhP
  have ZeX := fun (_s : (List Ze)) (ZA : (List ByteArray)) (Zd5 : Int) (Zc4 : Int) (Zge : Nat) (t : Za) (ZcG : (List Za)) => Zc5 ZA Zd5 Zc4 Zge t ZcG
  clear Zc5
  unfold ZW.M
  intro Zhu Zox Zo8
  refine AWL.step ?_
  refine AWP.seq ?_
  refine AWP.seq ?_
  refine ns ?_
  intro hlen45
  (try rw [List.length_map] at hlen45)
  (try rw [List.length_map])
  refine st ?_
  refine nw ?_
  refine ZN Zox Zo8 (fun x46 ZDp ZD4 ZHs ZIv => ?_) (fun ZD4 => ?_)
  ·subst ZD4
   refine nw ?_
   refine AWP.seq ?_
   refine AWP.block ?_
   refine AWP.seq ?_
   obtain ⟨r49, ZHk, hF⟩ := bind_some hF
   refine nn ?_
   refine sr (Zab (f := Za.cells) (Za.cells_eq x46) ZHs) ?_
   refine st ?_
   refine e3 ?_
   refine st ?_
   refine cm (Zj.weak (rn []) (Zmf s ZA x46 _ ZHk) rfl (WS.mk (tc (tc (Zd (Zt (lc (lc (lc (lc Zo))))) Zc))) Zb)) ?_
   refine st ?_
   refine AWP.seq ?_
   refine ns ?_
   refine ns ?_
   refine ns ?_
   refine AWL.weak (rn []) ?_ (ZeX s ZA (IntKind.i64.wrap (Zd5 + r49.1)) (if r49.2 > Zc4 then r49.2 else Zc4) (Zge + 1) t ZDp _ hF (Zhu ++ [x46]) (by rw [Zox]; simp) (by rw [Zo8]; simp))
   exact (WS.mk (tc (tc (tp (tc (tc (Zd (Zr (Zdf (ZV hlen45 ZIv))) Zc)))))) (Zf rfl (cc (cc (cc (cc Zh)))) Zb))
  ·subst ZD4
   refine nw ?_
   refine AWP.seq ?_
   refine ns ?_
   obtain rfl := Zg hF
   refine ns ?_
   refine Exists.intro [] ?_
   refine st ?_
   exact wx (WS.mk (Zd (Zc9 (ZcC (WE.refl _) (ZcC (WE.refl _) Zc6))) Zc) Zb)
theorem Zmi : ∀ (s : (List Ze)) (Z3 : (List ByteArray)) (t : Za), ∀ r, ZaF s Z3 t = some r → ZaF.M s Z3 t r := fun s Z3 t => (Zei s).1 Z3 t
theorem lazycref04_measure_k1_ok : ∀ (s : (List Ze)) (Z3 : (List ByteArray)) (t : Za), ∀ r, Z9 s Z3 t = some r → Z9.M s Z3 t r := fun s Z3 t => (Zei s).2.1 Z3 t
theorem lazycref04_measure_k2_ok : ∀ (s : (List Ze)) (ZA : (List ByteArray)) (t : Za), ∀ r, Z7 s ZA t = some r → Z7.M s ZA t r := fun s ZA t => (Zei s).2.2.1 ZA t
theorem lazycref04_measure_l3_ok : ∀ (s : (List Ze)) (ZA : (List ByteArray)) (Zd5 : Int) (Zc4 : Int) (Zge : Nat) (t : Za) (ZcG : (List Za)), ∀ r, ZW s ZA Zd5 Zc4 Zge t ZcG = some r → ZW.M s ZA Zd5 Zc4 Zge t ZcG r := fun s ZA Zd5 Zc4 Zge t ZcG => (Zei s).2.2.2 ZA Zd5 Zc4 Zge t ZcG

def Zb0 (avoid : (List ByteArray)) (b_5 : ByteArray) (k_8 : Nat) : Option (ByteArray) :=
 Zds b_5 ((k_8 : Nat) : Int) >>= fun r39 =>
 ZbE avoid r39 >>= fun r40 =>
 if r40 = true then
 Z4 (k_8 + 1 ≤ 9223372036854775807) >>= fun _ =>
 Zb0 avoid b_5 (k_8 + 1)
 else
 Zds b_5 ((k_8 : Nat) : Int) >>= fun r43 =>
 some r43
 partial_fixpoint
def Zb0.M (avoid : (List ByteArray)) (b_5 : ByteArray) (k_8 : Nat) (r : ByteArray) : Prop :=
 AWL Tryz.prog 28 (Code.sub (Zq Tryz.f63) [1, 1, 1, 1, 0, 0, 0]) (Code.cont Tryz.prog 28 (Zq Tryz.f63) [1, 1, 1, 1, 0, 0] (ZbV tab Tryz.f63.results (ZbX (.c none (.v (.string r))) []))) ⟨[(1, .c none (.sl (avoid.map c_S))), (5, .c none (.v (.string b_5))), (8, .c none (.v (.int .i64 ((k_8 : Nat) : Int))))], []⟩
theorem Zkx (avoid : (List ByteArray)) (b_5 : ByteArray) (k_8 : Nat) : ∀ r, Zb0 avoid b_5 k_8 = some r → Zb0.M avoid b_5 k_8 r := by
 refine Zb0.partial_correctness avoid b_5 (fun k_8 r => Zb0.M avoid b_5 k_8 r) ?_ k_8
 intro lazycref04_Renamed_l2' Zgq k_8 r hF
 have Zkm := fun (_avoid : (List ByteArray)) (_b_5 : ByteArray) (k_8 : Nat) => Zgq k_8
 clear Zgq
 unfold Zb0.M
 refine AWL.step ?_
 refine AWP.seq ?_
 refine AWP.seq ?_
 obtain ⟨r39, ZCZ, hF⟩ := bind_some hF
 obtain ⟨r40, ZIa, hF⟩ := bind_some hF
 refine ns ?_
 refine e3 ?_
 refine st ?_
 refine cm (Zj.weak (rn []) (ZjD b_5 ((k_8 : Nat) : Int) _ ZCZ) rfl (WS.mk (tc (tc Zc)) Zb)) ?_
 refine st ?_
 refine e3 ?_
 refine st ?_
 refine cm (Zj.weak (rn []) (ZeU avoid r39 _ ZIa) rfl (WS.mk (tc (tc Zc)) Zb)) ?_
 refine st ?_
 refine nw ?_
 refine Zi hF (fun Zv8 hF => ?_) (fun Zv8 hF => ?_)
 ·refine nw ?_
  refine AWP.block ?_
  obtain ⟨ZH6, hF⟩ := Zy hF
  refine ns ?_
  refine AWL.weak (rn []) ?_ (Zkm avoid b_5 (k_8 + 1) _ hF)
  exact (WS.mk (tc (tc (Zd (Zr (Zdf (Zdu ZH6))) Zc))) Zb)
 ·refine nw ?_
  refine AWP.seq ?_
  obtain ⟨r43, ZDc, hF⟩ := bind_some hF
  refine ns ?_
  refine e3 ?_
  refine st ?_
  refine cm (Zj.weak (rn []) (ZjD b_5 ((k_8 : Nat) : Int) _ ZDc) rfl (WS.mk (tc (tc Zc)) Zb)) ?_
  refine st ?_
  obtain rfl := Zg hF
  refine ns ?_
  refine Exists.intro [] ?_
  refine st ?_
  exact wx (WS.mk (tc Zc) Zb)

def ZcE (avoid : (List ByteArray)) (b_5 : ByteArray) : Option (ByteArray) :=
 Zb0 avoid b_5 1
def ZcE.M (avoid : (List ByteArray)) (b_5 : ByteArray) (r : ByteArray) : Prop :=
 AWP Tryz.prog 28 (Code.sub (Zq Tryz.f63) [1, 1, 1]) (Code.cont Tryz.prog 28 (Zq Tryz.f63) [1, 1, 1] (ZbV tab Tryz.f63.results (ZbX (.c none (.v (.string r))) []))) ⟨[(1, .c none (.sl (avoid.map c_S))), (5, .c none (.v (.string b_5)))], []⟩
theorem ZgP (avoid : (List ByteArray)) (b_5 : ByteArray) (r : ByteArray) (hF : ZcE avoid b_5 = some r) : ZcE.M avoid b_5 r := by
 unfold ZcE at hF
 unfold ZcE.M
 refine AWP.seq ?_
 refine ns ?_
 refine AWP.seq ?_
 refine AWP.block ?_
 refine AWP.loop ?_
 refine AWL.weak (rn []) ?_ (Zkx avoid b_5 1 _ hF)
 exact (WS.mk (tc (tc (tc Zc))) Zb)

def ZdR (name_ : ByteArray) (avoid : (List ByteArray)) : Option (ByteArray) :=
 ZcS name_ >>= fun r1 =>
 if (!r1.2.2) = true then
 ZcE avoid name_
 else
 ZcE avoid r1.1
def ZdR.M (name_ : ByteArray) (avoid : (List ByteArray)) (r : ByteArray) : Prop :=
 Zj Tryz.prog 63 [.c none (.v (.string name_)), .c none (.sl (avoid.map c_S))] [] (fun d b => d = .c none (.v (.string r)) ∧ b = [])
theorem Zmh (name_ : ByteArray) (avoid : (List ByteArray)) (r : ByteArray) (hF : ZdR name_ avoid = some r) : ZdR.M name_ avoid r := by
 unfold ZdR at hF
 unfold ZdR.M
 refine en Tryz.func63 ?_
 refine AWP.seq ?_
 refine ns ?_
 refine AWP.seq ?_
 obtain ⟨r1, hr1, hF⟩ := bind_some hF
 refine ns ?_
 refine e3 ?_
 refine st ?_
 refine cm (Zj.weak (rn []) (Zg0 name_ _ hr1) rfl (WS.mk (tc Zc) Zb)) ?_
 refine st ?_
 refine AWP.seq ?_
 refine AWP.seq ?_
 refine ns ?_
 refine nw ?_
 refine Zi hF (fun ZG2 hF => ?_) (fun ZG2 hF => ?_)
 ·refine ns ?_
  refine AWP.weak (rn []) ?_ (ZgP avoid name_ _ hF)
  exact (WS.mk (tc (tc Zc)) Zb)
 ·refine nw ?_
  refine AWP.weak (rn []) ?_ (ZgP avoid r1.1 _ hF)
  exact (WS.mk (tc (tc Zc)) Zb)

def Zfd (name_ : ByteArray) : Option (Za) :=
 some (Za.mk 1 name_ (Zk.mk ([] : List Zk)) ([] : List Za))
def Zfd.M (name_ : ByteArray) (r : Za) : Prop :=
 Zj Tryz.prog 64 [.c none (.v (.string name_))] [] (fun d b => d = .agg [.v (.int .i64 r.fOp), .v (.string r.fName), .sl (r.fBound.fArgs.map Zk.cells), .sl (r.fKids.map Za.cells)] ∧ b = [])
theorem ZoX (name_ : ByteArray) (r : Za) (hF : Zfd name_ = some r) : Zfd.M name_ r := by
 unfold Zfd at hF
 unfold Zfd.M
 refine en Tryz.func64 ?_
 refine AWP.seq ?_
 refine ns ?_
 refine AWP.seq ?_
 refine ns ?_
 obtain rfl := Zg hF
 refine ns ?_
 refine Exists.intro [] ?_
 refine st ?_
 exact wx (WS.mk (Zd (Zt (lc (lc (ZaR WE.nil (ZaR WE.nil Zo))))) Zc) Zb)

def Zeq (f : Za) (x : Za) : Option (Za) :=
 some (Za.mk 3 (ByteArray.mk #[]) (Zk.mk ([] : List Zk)) ([f, x]))
def Zeq.M (f : Za) (x : Za) (r : Za) : Prop :=
 Zj Tryz.prog 62 [.agg [.v (.int .i64 f.fOp), .v (.string f.fName), .sl (f.fBound.fArgs.map Zk.cells), .sl (f.fKids.map Za.cells)], .agg [.v (.int .i64 x.fOp), .v (.string x.fName), .sl (x.fBound.fArgs.map Zk.cells), .sl (x.fKids.map Za.cells)]] [] (fun d b => d = .agg [.v (.int .i64 r.fOp), .v (.string r.fName), .sl (r.fBound.fArgs.map Zk.cells), .sl (r.fKids.map Za.cells)] ∧ b = [])
theorem Zoq (f : Za) (x : Za) (r : Za) (hF : Zeq f x = some r) : Zeq.M f x r := by
 unfold Zeq at hF
 unfold Zeq.M
 refine en Tryz.func62 ?_
 refine AWP.seq ?_
 refine ns ?_
 refine AWP.seq ?_
 refine ns ?_
 refine Exists.intro _ (And.intro (Zbv (f := Za.cells) (ZdA (Za.cells_eq f) (lc (lc (lc (lc Zo))))) (Zbv (f := Za.cells) (ZdA (Za.cells_eq x) (lc (lc (lc (lc Zo))))) (ZY (f := Za.cells)))) ?_)
 refine st ?_
 obtain rfl := Zg hF
 refine ns ?_
 refine Exists.intro [] ?_
 refine st ?_
 exact wx (WS.mk (Zd (Zt (lc (lc (ZaR WE.nil (lc Zo))))) Zc) Zb)

mutual
def Zao (s : (List Ze)) (t : Za) : Option (Za) :=
 if (t.fOp == 1) = true then
 Zb3 s t.fName >>= fun ZDk =>
 if ZDk.2 = true then
 some ZDk.1
 else
 some t
 else
 if (t.fOp == 3) = true then
 (ixI t.fKids 1) >>= fun ZxX =>
 (ixI t.fKids 0) >>= fun Zyp =>
 Zao s Zyp >>= fun ZAn =>
 Zao s ZxX >>= fun Zzn =>
 Zeq ZAn Zzn >>= fun ZA6 =>
 some ZA6
 else
 if (t.fOp == 4) = true then
 (ixI t.fKids 0) >>= fun ZeF =>
 Zal ([] : List ByteArray) ([] : List ByteArray) ZeF >>= fun ZiO =>
 ZbJ s ZiO ([]) ([]) 0 t ZeF ZiO
 else
 some t
 partial_fixpoint
def ZbJ (s : (List Ze)) (ZiO : ((List ByteArray))) (Zeo : (List Ze)) (Zc2 : (List ByteArray)) (Zhj : Nat) (t : Za) (ZeF : Za) (ZdD : (List ByteArray)) : Option (Za) :=
 (match ZdD with
 | ZrG :: ZuG =>
 Zb3 s ZrG >>= fun Zpz =>
 if (Zpz.2 && (!(ZrG.toList == t.fName.toList))) = true then
 Z4 ((Zeo.length + ([(Ze.mk ZrG Zpz.1)]).length) * 88 ≤ 140737488355328) >>= fun _ =>
 Zal Zc2 ([] : List ByteArray) Zpz.1 >>= fun ZCc =>
 ZbJ s ZiO (Zeo ++ ([(Ze.mk ZrG Zpz.1)])) ZCc (Zhj + 1) t ZeF ZuG
 else
 ZbJ s ZiO Zeo Zc2 (Zhj + 1) t ZeF ZuG
 | [] =>
 ZbE Zc2 t.fName >>= fun ZGE =>
 if ZGE = true then
 Z4 ((0 + ZiO.length) * 16 ≤ 140737488355328) >>= fun _ =>
 Z4 ((ZiO.length + Zc2.length) * 16 ≤ 140737488355328) >>= fun _ =>
 ZdR t.fName (ZiO ++ Zc2) >>= fun ZAQ =>
 Zfd ZAQ >>= fun ZzY =>
 Z4 ((Zeo.length + ([(Ze.mk t.fName ZzY)]).length) * 88 ≤ 140737488355328) >>= fun _ =>
 Zb2 (Zeo ++ ([(Ze.mk t.fName ZzY)])) ZAQ t ZeF
 else
 Zb2 Zeo t.fName t ZeF)
 partial_fixpoint
def Zb2 (Zeo : (List Ze)) (Ziu : ByteArray) (t : Za) (ZeF : Za) : Option (Za) :=
 Zao Zeo ZeF >>= fun ZCV =>
 some (Za.mk 4 Ziu t.fBound ([ZCV]))
 partial_fixpoint
end
def Zao.M (s : (List Ze)) (t : Za) (r : Za) : Prop :=
 Zj Tryz.prog 39 [.c none (.sl (s.map Ze.cells)), .agg [.v (.int .i64 t.fOp), .v (.string t.fName), .sl (t.fBound.fArgs.map Zk.cells), .sl (t.fKids.map Za.cells)]] [] (fun d b => d = .agg [.v (.int .i64 r.fOp), .v (.string r.fName), .sl (r.fBound.fArgs.map Zk.cells), .sl (r.fKids.map Za.cells)] ∧ b = [])
def ZbJ.M (s : (List Ze)) (ZiO : ((List ByteArray))) (Zeo : (List Ze)) (Zc2 : (List ByteArray)) (Zhj : Nat) (t : Za) (ZeF : Za) (ZdD : (List ByteArray)) (r : Za) : Prop :=
 ∀ ZgG : List ByteArray, ZiO = ZgG ++ ZdD → Zhj = ZgG.length → AWL Tryz.prog 122 (Code.sub (Zq Tryz.f39) [1, 0, 1, 0, 1, 1, 1, 1, 1, 0, 1, 1, 1, 1, 0, 1, 0, 0]) (Code.cont Tryz.prog 122 (Zq Tryz.f39) [1, 0, 1, 0, 1, 1, 1, 1, 1, 0, 1, 1, 1, 1, 0, 1, 0] (ZbV tab Tryz.f39.results (ZbX (.agg [.v (.int .i64 r.fOp), .v (.string r.fName), .sl (r.fBound.fArgs.map Zk.cells), .sl (r.fKids.map Za.cells)]) []))) ⟨[(0, .c none (.sl (s.map Ze.cells))), (3, .ptr 3 0), (4, .ptr 4 0), (7, .ptr 7 0), (8, .c (some (8, 9)) (.sl (ZiO.map c_S))), (9, .c (some (9, 45)) (.sl (Zeo.map Ze.cells))), (10, .c (some (10, 9)) (.sl (Zc2.map c_S))), (11, .c none (.v (.int .i64 ((Zhj : Nat) : Int))))], [(3, [(none, .v (.int .i64 t.fOp)), (none, .v (.string t.fName)), (none, .sl (t.fBound.fArgs.map Zk.cells)), (none, .sl (t.fKids.map Za.cells))]), (4, [(none, .v (.int .i64 0)), (none, .v (.string (ByteArray.mk #[]))), (none, .nils), (none, .nils)]), (7, [(none, .v (.int .i64 ZeF.fOp)), (none, .v (.string ZeF.fName)), (none, .sl (ZeF.fBound.fArgs.map Zk.cells)), (none, .sl (ZeF.fKids.map Za.cells))])]⟩
def Zb2.M (Zeo : (List Ze)) (Ziu : ByteArray) (t : Za) (ZeF : Za) (r : Za) : Prop :=
 AWP Tryz.prog 122 (Code.sub (Zq Tryz.f39) [1, 0, 1, 0, 1, 1, 1, 1, 1, 0, 1, 1, 1, 1, 1, 1, 1]) (Code.cont Tryz.prog 122 (Zq Tryz.f39) [1, 0, 1, 0, 1, 1, 1, 1, 1, 0, 1, 1, 1, 1, 1, 1, 1] (ZbV tab Tryz.f39.results (ZbX (.agg [.v (.int .i64 r.fOp), .v (.string r.fName), .sl (r.fBound.fArgs.map Zk.cells), .sl (r.fKids.map Za.cells)]) []))) ⟨[(3, .ptr 3 0), (4, .ptr 4 0), (7, .ptr 7 0), (9, .c (some (9, 45)) (.sl (Zeo.map Ze.cells))), (14, .c none (.v (.string Ziu)))], [(3, [(none, .v (.int .i64 t.fOp)), (none, .v (.string t.fName)), (none, .sl (t.fBound.fArgs.map Zk.cells)), (none, .sl (t.fKids.map Za.cells))]), (4, [(none, .v (.int .i64 0)), (none, .v (.string (ByteArray.mk #[]))), (none, .nils), (none, .nils)]), (7, [(none, .v (.int .i64 ZeF.fOp)), (none, .v (.string ZeF.fName)), (none, .sl (ZeF.fBound.fArgs.map Zk.cells)), (none, .sl (ZeF.fKids.map Za.cells))])]⟩
theorem Zga : (∀ (s : (List Ze)) (t : Za), ∀ r, Zao s t = some r → Zao.M s t r) ∧ (∀ (s : (List Ze)) (ZiO : ((List ByteArray))) (Zeo : (List Ze)) (Zc2 : (List ByteArray)) (Zhj : Nat) (t : Za) (ZeF : Za) (ZdD : (List ByteArray)), ∀ r, ZbJ s ZiO Zeo Zc2 Zhj t ZeF ZdD = some r → ZbJ.M s ZiO Zeo Zc2 Zhj t ZeF ZdD r) ∧ (∀ (Zeo : (List Ze)) (Ziu : ByteArray) (t : Za) (ZeF : Za), ∀ r, Zb2 Zeo Ziu t ZeF = some r → Zb2.M Zeo Ziu t ZeF r) := by
 refine Zao.mutual_partial_correctness Zao.M ZbJ.M Zb2.M ?_ ?_ ?_
 ·intro lazycref04_subst' lazycref04_subst_l1' Ze5 Zek s t r hF
  unfold Zao.M
  refine en Tryz.func39 ?_
  refine AWP.seq ?_
  refine ns ?_
  refine AWP.seq ?_
  refine AWP.seq ?_
  refine ns ?_
  refine AWP.block ?_
  refine AWP.seq ?_
  refine ns ?_
  refine nw ?_
  refine Zi hF (fun ZsJ hF => ?_) (fun ZsJ hF => ?_)
  ·refine AWP.seq ?_
   obtain ⟨ZDk, ZFr, hF⟩ := bind_some hF
   refine ns ?_
   refine e3 ?_
   refine st ?_
   refine cm (Zj.weak (rn []) (Zg1 s t.fName _ ZFr) rfl (WS.mk (tc (tc Zc)) Zb)) ?_
   refine st ?_
   refine AWP.seq ?_
   refine AWP.seq ?_
   refine ns ?_
   refine nw ?_
   refine Zi hF (fun ZzQ hF => ?_) (fun ZzQ hF => ?_)
   ·refine AWP.seq ?_
    refine ns ?_
    obtain rfl := Zg hF
    refine ns ?_
    refine Exists.intro [] ?_
    refine st ?_
    exact wx (WS.mk (Zd (Zt (lc (lc (lc (lc Zo))))) Zc) Zb)
   ·refine nw ?_
    refine AWP.seq ?_
    refine ns ?_
    obtain rfl := Zg hF
    refine ns ?_
    refine Exists.intro [] ?_
    refine st ?_
    exact wx (WS.mk (Zd (Zt (lc (lc (lc (lc Zo))))) Zc) Zb)
  ·refine AWP.seq ?_
   refine ns ?_
   refine nw ?_
   refine Zi hF (fun ZFQ hF => ?_) (fun ZFQ hF => ?_)
   ·refine AWP.seq ?_
    obtain ⟨ZxX, hx1290, ZEF, hF⟩ := ZcJ hF
    obtain ⟨Zyp, hx1300, ZEP, hF⟩ := ZcJ hF
    obtain ⟨ZAn, ZEW, hF⟩ := bind_some hF
    obtain ⟨Zzn, ZFb, hF⟩ := bind_some hF
    obtain ⟨ZA6, ZGy, hF⟩ := bind_some hF
    refine nn ?_
    refine Or.inr (Exists.intro [0, 6, 7, 8, 9, 10] (Exists.intro [[32, 38, 39, 40, 41, 42], [32, 38, 39, 40, 41, 42], [32, 38, 39, 40, 41, 42], [32, 38, 40, 41, 42], [32, 38, 41, 42], [32, 38, 42]] (Exists.intro [3] (Exists.intro [0, 3, 32, 38, 39, 40, 41, 42] (Exists.intro [32, 38, 39, 40, 41, 42] (Exists.intro [1, 2, 3, 4, 5, 11, 12, 13] (And.intro (by decide +kernel) ?_)))))))
    refine dp ?_
    refine dp ?_
    refine dp ?_
    refine dp ?_
    refine dr (ZbW (Za.cells_eq ZxX) ZEF) ?_
    refine dp ?_
    refine sr (ZbW (f := Za.cells) (Za.cells_eq Zyp) ZEP) ?_
    refine st ?_
    refine e3 ?_
    refine st ?_
    refine cm (Zj.weak (rn []) (Ze5 s Zyp _ ZEW) rfl (WS.mk (tc (Zd (Zt (lc (lc (lc (lc Zo))))) Zc)) Zb)) ?_
    refine st ?_
    refine e3 ?_
    refine st ?_
    refine cm (Zj.weak (rn []) (Ze5 s ZxX _ ZFb) rfl (WS.mk (tc (Zd (Zt (lc (lc (lc (lc Zo))))) Zc)) Zb)) ?_
    refine st ?_
    refine e3 ?_
    refine st ?_
    refine cm (Zj.weak (rn []) (Zoq ZAn Zzn _ ZGy) rfl (WS.mk (Zd (Zt (lc (lc (lc (lc Zo))))) (Zd (Zt (lc (lc (lc (lc Zo))))) Zc)) Zb)) ?_
    refine st ?_
    obtain rfl := Zg hF
    refine ns ?_
    refine Exists.intro [] ?_
    refine st ?_
    exact wx (WS.mk (Zd (Zt (lc (lc (lc (lc Zo))))) Zc) Zb)
   ·refine AWP.seq ?_
    refine ns ?_
    refine nw ?_
    refine Zi hF (fun ZFj hF => ?_) (fun ZFj hF => ?_)
    ·refine AWP.seq ?_
     obtain ⟨ZeF, hx1350, ZFk, hF⟩ := ZcJ hF
     refine nn ?_
     refine sr (ZbW (f := Za.cells) (Za.cells_eq ZeF) ZFk) ?_
     refine st ?_
     refine AWP.seq ?_
     obtain ⟨ZiO, ZEy, hF⟩ := bind_some hF
     refine ns ?_
     refine e3 ?_
     refine st ?_
     refine cm (Zj.weak (rn []) (ZfG ([] : List ByteArray) ([] : List ByteArray) ZeF _ ZEy) rfl (WS.mk (Zd Zju (Zd (Zr WE.nil) (Zd (Zt (lc (lc (lc (lc Zo))))) Zc))) Zb)) ?_
     refine st ?_
     refine AWP.seq ?_
     refine ns ?_
     refine AWP.seq ?_
     refine ns ?_
     refine AWP.seq ?_
     refine AWP.seq ?_
     refine ns ?_
     refine AWP.block ?_
     refine AWP.loop ?_
     refine AWL.weak (rn [(52, 8)]) ?_ (Zek s ZiO ([]) ([]) 0 t ZeF ZiO _ hF ([]) rfl rfl)
     exact (WS.mk (tc (tp (tp (tp (Zd (Zak rfl (WE.refl _)) (Zd Zju (Zd Zju (tc Zc)))))))) (Zf rfl (cc (cc (cc (cc Zh)))) (Zf rfl (cc (cc (cc (cc Zh)))) (Zf rfl (cc (cc (cc (cc Zh)))) Zb))))
    ·refine nw ?_
     refine AWP.seq ?_
     refine ns ?_
     obtain rfl := Zg hF
     refine ns ?_
     refine Exists.intro [] ?_
     refine st ?_
     exact wx (WS.mk (Zd (Zt (lc (lc (lc (lc Zo))))) Zc) Zb)
 ·intro lazycref04_subst_l1' lazycref04_subst_k2' Zek Zhx s ZiO Zeo Zc2 Zhj t ZeF ZdD r hF
  unfold ZbJ.M
  intro ZgG Znq Zng
  refine AWL.step ?_
  refine AWP.seq ?_
  refine AWP.seq ?_
  refine ns ?_
  intro hlen209
  (try rw [List.length_map] at hlen209)
  (try rw [List.length_map])
  refine st ?_
  refine nw ?_
  refine ZN Znq Zng (fun ZrG ZuG ZyV ZyB ZBR => ?_) (fun ZyV => ?_)
  ·subst ZyV
   refine nw ?_
   refine AWP.seq ?_
   refine AWP.block ?_
   refine AWP.seq ?_
   obtain ⟨Zpz, ZF8, hF⟩ := bind_some hF
   refine nn ?_
   refine sr (Zab (f := c_S) rfl ZyB) ?_
   refine st ?_
   refine e3 ?_
   refine st ?_
   refine cm (Zj.weak (rn []) (Zg1 s ZrG _ ZF8) rfl (WS.mk (tc (tc Zc)) Zb)) ?_
   refine st ?_
   refine AWP.seq ?_
   refine AWP.cutN (fun T => ∃ r, WS r T ⟨[(0, .c none (.sl (s.map Ze.cells))), (3, .ptr 3 0), (4, .ptr 4 0), (7, .ptr 7 0), (8, .c (some (8, 9)) (.sl (ZiO.map c_S))), (9, .c (some (9, 45)) (.sl (Zeo.map Ze.cells))), (10, .c (some (10, 9)) (.sl (Zc2.map c_S))), (11, .c none (.v (.int .i64 ((Zhj : Nat) : Int)))), (12, .ptr 12 0), (77, .c none (.v (.bool (Zpz.2 && (!(ZrG.toList == t.fName.toList))))))], [(3, [(none, .v (.int .i64 t.fOp)), (none, .v (.string t.fName)), (none, .sl (t.fBound.fArgs.map Zk.cells)), (none, .sl (t.fKids.map Za.cells))]), (4, [(none, .v (.int .i64 0)), (none, .v (.string (ByteArray.mk #[]))), (none, .nils), (none, .nils)]), (7, [(none, .v (.int .i64 ZeF.fOp)), (none, .v (.string ZeF.fName)), (none, .sl (ZeF.fBound.fArgs.map Zk.cells)), (none, .sl (ZeF.fKids.map Za.cells))]), (12, [(none, .v (.int .i64 Zpz.1.fOp)), (none, .v (.string Zpz.1.fName)), (none, .sl (Zpz.1.fBound.fArgs.map Zk.cells)), (none, .sl (Zpz.1.fKids.map Za.cells))])]⟩) ?_ (fun T hw => ?_)
   ·refine nn ?_
    refine Or.inl (Exists.intro 8 (Exists.intro [[], [], [], [], [], [], [], []] (Exists.intro [([68, 69, 70, 71, 72, 73, 74, 75], [], []), ([69, 70, 71, 72, 73, 74, 75], [], []), ([70, 71, 72, 73, 74, 75], [], []), ([70, 71, 72, 73, 74, 75], [], []), ([72, 73, 74, 75], [], []), ([73, 74, 75], [], []), ([70, 71, 72, 73, 74, 75], [], []), ([70, 71, 72, 73, 75], [], [])] (Exists.intro [68, 69, 70, 71, 72, 73, 74, 75] (And.intro (by decide +kernel) ?_)))))
    refine dp ?_
    refine dp ?_
    refine st ?_
    refine Zm true (fun ZzF => ?_) (fun ZzF => ?_)
    ·(conv => whnf)
     refine dp ?_
     refine dp ?_
     refine dr (Zab rfl ZyB) ?_
     refine dp ?_
     refine dp ?_
     refine dp ?_
     refine st ?_
     exact Exists.intro (rn [(8, 8), (9, 9), (10, 10)]) (WS.mk (tc (tp (tp (tp (Zd (Zak rfl (WE.refl _)) (Zd (Zak rfl (WE.refl _)) (Zd (Zak rfl (WE.refl _)) (tc (tp (Zd (Zr (web ZzF)) Zc)))))))))) (Zf rfl (cc (cc (cc (cc Zh)))) (Zf rfl (cc (cc (cc (cc Zh)))) (Zf rfl (cc (cc (cc (cc Zh)))) (Zf rfl (cc (cc (cc (cc Zh)))) Zb)))))
    ·(conv => whnf)
     refine st ?_
     exact Exists.intro (rn [(8, 8), (9, 9), (10, 10)]) (WS.mk (tc (tp (tp (tp (Zd (Zak rfl (WE.refl _)) (Zd (Zak rfl (WE.refl _)) (Zd (Zak rfl (WE.refl _)) (tc (tp (Zd (Zr (web ZzF)) Zc)))))))))) (Zf rfl (cc (cc (cc (cc Zh)))) (Zf rfl (cc (cc (cc (cc Zh)))) (Zf rfl (cc (cc (cc (cc Zh)))) (Zf rfl (cc (cc (cc (cc Zh)))) Zb)))))
   obtain ⟨r0, hw⟩ := hw
   (conv => whnf)
   refine AWP.weak r0 hw ?_
   refine nw ?_
   refine Zi hF (fun ZFT hF => ?_) (fun ZFT hF => ?_)
   ·refine AWP.seq ?_
    obtain ⟨ZGr, hF⟩ := Zy hF
    refine nn ?_
    refine Or.inl (Exists.intro 8 (Exists.intro [[], [], [], [], [], [], [], []] (Exists.intro [([78, 79, 80, 81, 82, 83, 84, 85], [], []), ([78, 79, 80, 81, 82, 83, 84, 85], [], []), ([78, 79, 80, 81, 82, 83, 84, 85], [], []), ([78, 81, 82, 83, 84, 85], [], []), ([78, 82, 83, 84, 85], [], []), ([78, 79, 80, 81, 82, 83, 84, 85], [], []), ([78, 84, 85], [], []), ([78, 85], [], [])] (Exists.intro [78, 79, 80, 81, 82, 83, 84, 85] (And.intro (by decide +kernel) ?_)))))
    refine dp ?_
    refine dp ?_
    refine dp ?_
    refine dr (Zab rfl ZyB) ?_
    refine dp ?_
    refine dp ?_
    refine dp ?_
    refine de (Zbv (f := Ze.cells) (ZdA (Ze.cells_eq (Ze.mk ZrG Zpz.1)) (lc (lc (lc (lc (lc Zo)))))) (ZY (f := Ze.cells))) ?_
    refine sa (fun l => ZbS l (fun x => Ze.cells_len x)) ZGr ?_
    refine Exists.intro _ (And.intro (WE.refl _) ?_)
    rw [← List.map_append]
    refine st ?_
    obtain ⟨ZCc, ZFa, hF⟩ := bind_some hF
    refine ns ?_
    refine e3 ?_
    refine st ?_
    refine cm (Zj.weak (rn [(10, 0)]) (ZfG Zc2 ([] : List ByteArray) Zpz.1 _ ZFa) rfl (WS.mk (Zd (Zak rfl (WE.refl _)) (Zd (Zr WE.nil) (Zd (Zt (lc (lc (lc (lc Zo))))) Zc))) Zb)) ?_
    refine st ?_
    refine ns ?_
    refine AWL.weak (rn [(8, 8), (86, 9), (89, 10)]) ?_ (Zek s ZiO (Zeo ++ ([(Ze.mk ZrG Zpz.1)])) ZCc (Zhj + 1) t ZeF ZuG _ hF (ZgG ++ [ZrG]) (by rw [Znq]; simp) (by rw [Zng]; simp))
    exact (WS.mk (tc (tp (tp (tp (Zd (Zak rfl (WE.refl _)) (Zd (Zak rfl (WE.refl _)) (Zd (Zak rfl (WE.refl _)) (Zd (Zr (Zdf (ZV hlen209 ZBR))) Zc)))))))) (Zf rfl (cc (cc (cc (cc Zh)))) (Zf rfl (cc (cc (cc (cc Zh)))) (Zf rfl (cc (cc (cc (cc Zh)))) Zb))))
   ·refine nw ?_
    refine ns ?_
    refine AWL.weak (rn [(8, 8), (9, 9), (10, 10)]) ?_ (Zek s ZiO Zeo Zc2 (Zhj + 1) t ZeF ZuG _ hF (ZgG ++ [ZrG]) (by rw [Znq]; simp) (by rw [Zng]; simp))
    exact (WS.mk (tc (tp (tp (tp (Zd (Zak rfl (WE.refl _)) (Zd (Zak rfl (WE.refl _)) (Zd (Zak rfl (WE.refl _)) (Zd (Zr (Zdf (ZV hlen209 ZBR))) Zc)))))))) (Zf rfl (cc (cc (cc (cc Zh)))) (Zf rfl (cc (cc (cc (cc Zh)))) (Zf rfl (cc (cc (cc (cc Zh)))) Zb))))
  ·subst ZyV
   refine nw ?_
   refine AWP.seq ?_
   refine ns ?_
   refine AWP.seq ?_
   refine AWP.seq ?_
   obtain ⟨ZGE, ZE4, hF⟩ := bind_some hF
   refine ns ?_
   refine Exists.intro [10] (Exists.intro [] (Exists.intro [] ?_))
   refine st ?_
   refine cm (Zj.weak (rn []) (ZeU Zc2 t.fName _ ZE4) rfl (WS.mk (tc (tc Zc)) Zb)) ?_
   refine st ?_
   refine nw ?_
   refine Zi hF (fun ZEU hF => ?_) (fun ZEU hF => ?_)
   ·refine AWP.seq ?_
    refine ns ?_
    refine AWP.seq ?_
    obtain ⟨ZFO, hF⟩ := Zy hF
    refine nn ?_
    refine sa (fun l => ZbS l (fun x => ZfN x)) ZFO ?_
    refine Exists.intro _ (And.intro (WE.refl _) ?_)
    (try rw [List.nil_append])
    refine st ?_
    refine AWP.seq ?_
    obtain ⟨ZEE, hF⟩ := Zy hF
    refine nn ?_
    refine sa (fun l => ZbS l (fun x => ZfN x)) ZEE ?_
    refine Exists.intro _ (And.intro (WE.refl _) ?_)
    rw [← List.map_append]
    refine st ?_
    refine AWP.seq ?_
    obtain ⟨ZAQ, ZE0, hF⟩ := bind_some hF
    refine ns ?_
    refine Exists.intro [100] (Exists.intro [] (Exists.intro [] ?_))
    refine st ?_
    refine cm (Zj.weak (rn []) (Zmh t.fName (ZiO ++ Zc2) _ ZE0) rfl (WS.mk (tc (tc Zc)) Zb)) ?_
    refine st ?_
    obtain ⟨ZzY, ZFg, hF⟩ := bind_some hF
    obtain ⟨ZGm, hF⟩ := Zy hF
    refine nn ?_
    refine Or.inl (Exists.intro 7 (Exists.intro [[], [], [], [], [], [], []] (Exists.intro [([105, 106, 107, 108, 109, 110, 111], [], []), ([105, 106, 107, 108, 109, 110, 111], [], []), ([105, 107, 108, 109, 110, 111], [], []), ([105, 106, 107, 108, 109, 110, 111], [], []), ([105, 106, 107, 109, 110, 111], [], []), ([105, 110, 111], [], []), ([105, 111], [], [])] (Exists.intro [105, 106, 107, 108, 109, 110, 111] (And.intro (by decide +kernel) ?_)))))
    refine dp ?_
    refine dp ?_
    refine dp ?_
    refine dp ?_
    (refine st ?_; apply Exists.intro; apply Exists.intro; apply And.intro; (focus ((conv => whnf); refine Exists.intro [] ?_; (conv => whnf); refine And.intro rfl ?_; (conv => whnf); refine Zj.mono (Zj.weak (rn []) (ZoX ZAQ _ ZFg) rfl (WS.mk (tc Zc) Zb)) ?_; rintro d b ⟨rfl, rfl⟩; exact And.intro rfl (And.intro rfl rfl))); apply And.intro; (focus exact rfl); (conv => whnf))
    refine dp ?_
    refine de (Zbv (f := Ze.cells) (ZdA (Ze.cells_eq (Ze.mk t.fName ZzY)) (lc (lc (lc (lc (lc Zo)))))) (ZY (f := Ze.cells))) ?_
    refine sa (fun l => ZbS l (fun x => Ze.cells_len x)) ZGm ?_
    refine Exists.intro _ (And.intro (WE.refl _) ?_)
    rw [← List.map_append]
    refine st ?_
    refine AWP.weak (rn [(112, 9)]) ?_ (Zhx (Zeo ++ ([(Ze.mk t.fName ZzY)])) ZAQ t ZeF _ hF)
    exact (WS.mk (tp (tp (tp (Zd (Zak rfl (WE.refl _)) (tc Zc))))) (Zf rfl (cc (cc (cc (cc Zh)))) (Zf rfl (cc (cc (cc (cc Zh)))) (Zf rfl (cc (cc (cc (cc Zh)))) Zb))))
   ·refine nw ?_
    refine AWP.weak (rn [(9, 9)]) ?_ (Zhx Zeo t.fName t ZeF _ hF)
    exact (WS.mk (tp (tp (tp (Zd (Zak rfl (WE.refl _)) (tc Zc))))) (Zf rfl (cc (cc (cc (cc Zh)))) (Zf rfl (cc (cc (cc (cc Zh)))) (Zf rfl (cc (cc (cc (cc Zh)))) Zb))))
 ·intro lazycref04_subst' Ze5 Zeo Ziu t ZeF r hF
  unfold Zb2.M
  refine AWP.seq ?_
  obtain ⟨ZCV, ZGo, hF⟩ := bind_some hF
  refine nn ?_
  refine Or.inr (Exists.intro [0, 1, 2, 3] (Exists.intro [[113, 114, 115, 116], [113, 114, 115, 116], [113, 115, 116], [113, 114, 115, 116]] (Exists.intro [3] (Exists.intro [3, 9, 14, 113, 114, 115, 116] (Exists.intro [113, 114, 115, 116] (Exists.intro [4, 5, 6, 7, 8] (And.intro (by decide +kernel) ?_)))))))
  refine dp ?_
  refine dp ?_
  refine dp ?_
  refine dp ?_
  refine st ?_
  refine Exists.intro [9] (Exists.intro [] (Exists.intro [] ?_))
  refine st ?_
  refine cm (Zj.weak (rn []) (Ze5 Zeo ZeF _ ZGo) rfl (WS.mk (tc (Zd (Zt (lc (lc (lc (lc Zo))))) Zc)) Zb)) ?_
  refine st ?_
  refine Exists.intro _ (And.intro (Zbv (f := Za.cells) (ZdA (Za.cells_eq ZCV) (lc (lc (lc (lc Zo))))) (ZY (f := Za.cells))) ?_)
  refine st ?_
  obtain rfl := Zg hF
  refine ns ?_
  refine Exists.intro [] ?_
  refine st ?_
  exact wx (WS.mk (Zd (Zt (lc (lc (lc (lc Zo))))) Zc) Zb)
theorem ZnM : ∀ (s : (List Ze)) (t : Za), ∀ r, Zao s t = some r → Zao.M s t r := Zga.1
theorem lazycref04_subst_l1_ok : ∀ (s : (List Ze)) (ZiO : ((List ByteArray))) (Zeo : (List Ze)) (Zc2 : (List ByteArray)) (Zhj : Nat) (t : Za) (ZeF : Za) (ZdD : (List ByteArray)), ∀ r, ZbJ s ZiO Zeo Zc2 Zhj t ZeF ZdD = some r → ZbJ.M s ZiO Zeo Zc2 Zhj t ZeF ZdD r := Zga.2.1
theorem lazycref04_subst_k2_ok : ∀ (Zeo : (List Ze)) (Ziu : ByteArray) (t : Za) (ZeF : Za), ∀ r, Zb2 Zeo Ziu t ZeF = some r → Zb2.M Zeo Ziu t ZeF r := Zga.2.2

def Zbh (s : (List Ze)) (i_5 : Nat) (t : Za) (Zaw : (List Ze)) : Option (Za) :=
 (match Zaw with
 | x58 :: ZDz =>
 Zby x58.fName >>= fun r61 =>
 (if (!r61) = true then some true else ZaI x58.fType >>= fun r62 =>
 some (r62 != 0)) >>= fun c63 =>
 if c63 = true then
 some (Za.mk 0 (ByteArray.mk #[]) (Zk.mk ([] : List Zk)) ([] : List Za))
 else
 Zbh s (i_5 + 1) t ZDz
 | [] =>
 ZaF s ([] : List ByteArray) t >>= fun r66 =>
 if ((decide (r66.1 > 20000)) || (decide (r66.2 > 100))) = true then
 some (Za.mk 0 (ByteArray.mk #[]) (Zk.mk ([] : List Zk)) ([] : List Za))
 else
 Zao s t >>= fun r70 =>
 some r70)
 partial_fixpoint
def Zbh.M (s : (List Ze)) (i_5 : Nat) (t : Za) (Zaw : (List Ze)) (r : Za) : Prop :=
 ∀ Zdy : List Ze, s = Zdy ++ Zaw → i_5 = Zdy.length → AWL Tryz.prog 51 (Code.sub (Zq Tryz.f17) [1, 1, 0, 1, 0, 0]) (Code.cont Tryz.prog 51 (Zq Tryz.f17) [1, 1, 0, 1, 0] (ZbV tab Tryz.f17.results (ZbX (.agg [.v (.int .i64 r.fOp), .v (.string r.fName), .sl (r.fBound.fArgs.map Zk.cells), .sl (r.fKids.map Za.cells)]) []))) ⟨[(0, .c none (.sl (s.map Ze.cells))), (3, .ptr 3 0), (4, .ptr 4 0), (5, .c none (.v (.int .i64 ((i_5 : Nat) : Int))))], [(3, [(none, .v (.int .i64 t.fOp)), (none, .v (.string t.fName)), (none, .sl (t.fBound.fArgs.map Zk.cells)), (none, .sl (t.fKids.map Za.cells))]), (4, [(none, .v (.int .i64 0)), (none, .v (.string (ByteArray.mk #[]))), (none, .nils), (none, .nils)])]⟩
theorem Zln (s : (List Ze)) (i_5 : Nat) (t : Za) (Zaw : (List Ze)) : ∀ r, Zbh s i_5 t Zaw = some r → Zbh.M s i_5 t Zaw r := by
 refine Zbh.partial_correctness s t (fun i_5 Zaw r => Zbh.M s i_5 t Zaw r) ?_ i_5 Zaw
 intro lazycref04_Subst_l1' Zhg i_5 Zaw r hF
 have ZlM := fun (_s : (List Ze)) (i_5 : Nat) (_t : Za) (Zaw : (List Ze)) => Zhg i_5 Zaw
 clear Zhg
 unfold Zbh.M
 intro Zdy ZhB ZhA
 refine AWL.step ?_
 refine AWP.seq ?_
 refine AWP.seq ?_
 refine ns ?_
 intro hlen57
 (try rw [List.length_map] at hlen57)
 (try rw [List.length_map])
 refine st ?_
 refine nw ?_
 refine ZN ZhB ZhA (fun x58 ZDz ZCb ZFK ZGZ => ?_) (fun ZCb => ?_)
 ·subst ZCb
  refine nw ?_
  refine AWP.seq ?_
  refine AWP.block ?_
  refine AWP.seq ?_
  obtain ⟨r61, Zy9, hF⟩ := bind_some hF
  obtain ⟨c63, Zqe, hF⟩ := bind_some hF
  refine AWP.cutN (fun T => ∃ r, WS r T ⟨[(0, .c none (.sl (s.map Ze.cells))), (3, .ptr 3 0), (4, .ptr 4 0), (5, .c none (.v (.int .i64 ((i_5 : Nat) : Int)))), (33, .c none (.v (.bool c63)))], [(3, [(none, .v (.int .i64 t.fOp)), (none, .v (.string t.fName)), (none, .sl (t.fBound.fArgs.map Zk.cells)), (none, .sl (t.fKids.map Za.cells))]), (4, [(none, .v (.int .i64 0)), (none, .v (.string (ByteArray.mk #[]))), (none, .nils), (none, .nils)])]⟩) ?_ (fun T hw => ?_)
  ·refine nn ?_
   refine sr (Zab (f := Ze.cells) (Ze.cells_eq x58) ZFK) ?_
   refine st ?_
   refine e3 ?_
   refine st ?_
   refine cm (Zj.weak (rn []) (ZfD x58.fName _ Zy9) rfl (WS.mk (tc Zc) Zb)) ?_
   refine st ?_
   refine Zm false (fun ZrK => ?_) (fun ZrK => ?_)
   ·have Zqe := ift ZrK Zqe
    (conv => whnf)
    obtain rfl := Zg Zqe
    refine st ?_
    exact wx (WS.mk (tc (tp (tp (tc (Zd (Zr (web ZrK)) Zc))))) (Zf rfl (cc (cc (cc (cc Zh)))) (Zf rfl (cc (cc (cc (cc Zh)))) Zb)))
   ·have Zqe := ife ZrK Zqe
    obtain ⟨r62, ZDq, Zqe⟩ := bind_some Zqe
    (conv => whnf)
    refine sr (Zab (f := Ze.cells) (Ze.cells_eq x58) ZFK) ?_
    refine st ?_
    refine e3 ?_
    refine st ?_
    refine cm (Zj.weak (rn []) (ZdH x58.fType _ ZDq) rfl (WS.mk (Zd (Zt (lc (lc (lc (lc Zo))))) Zc) Zb)) ?_
    refine st ?_
    obtain rfl := Zg Zqe
    refine st ?_
    exact wx (WS.mk (tc (tp (tp (tc (Zd (Zr (web ZrK)) Zc))))) (Zf rfl (cc (cc (cc (cc Zh)))) (Zf rfl (cc (cc (cc (cc Zh)))) Zb)))
  obtain ⟨r0, hw⟩ := hw
  (conv => whnf)
  refine AWP.weak r0 hw ?_
  refine nw ?_
  refine Zi hF (fun ZAv hF => ?_) (fun ZAv hF => ?_)
  ·refine AWP.seq ?_
   refine ns ?_
   obtain rfl := Zg hF
   refine ns ?_
   refine Exists.intro [] ?_
   refine st ?_
   exact wx (WS.mk (Zd (Zt (lc (lc (ZaR WE.nil (ZaR WE.nil Zo))))) Zc) Zb)
  ·refine nw ?_
   refine ns ?_
   refine AWL.weak (rn []) ?_ (ZlM s (i_5 + 1) t ZDz _ hF (Zdy ++ [x58]) (by rw [ZhB]; simp) (by rw [ZhA]; simp))
   exact (WS.mk (tc (tp (tp (Zd (Zr (Zdf (ZV hlen57 ZGZ))) Zc)))) (Zf rfl (cc (cc (cc (cc Zh)))) (Zf rfl (cc (cc (cc (cc Zh)))) Zb)))
 ·subst ZCb
  refine nw ?_
  refine AWP.seq ?_
  obtain ⟨r66, ZHh, hF⟩ := bind_some hF
  refine ns ?_
  refine e3 ?_
  refine st ?_
  refine cm (Zj.weak (rn []) (Zmi s ([] : List ByteArray) t _ ZHh) rfl (WS.mk (tc (Zd (Zr WE.nil) (Zd (Zt (lc (lc (lc (lc Zo))))) Zc))) Zb)) ?_
  refine st ?_
  refine AWP.seq ?_
  refine AWP.seq ?_
  refine AWP.cutN (fun T => ∃ r, WS r T ⟨[(0, .c none (.sl (s.map Ze.cells))), (3, .ptr 3 0), (4, .ptr 4 0), (46, .c none (.v (.bool ((decide (r66.1 > 20000)) || (decide (r66.2 > 100))))))], [(3, [(none, .v (.int .i64 t.fOp)), (none, .v (.string t.fName)), (none, .sl (t.fBound.fArgs.map Zk.cells)), (none, .sl (t.fKids.map Za.cells))]), (4, [(none, .v (.int .i64 0)), (none, .v (.string (ByteArray.mk #[]))), (none, .nils), (none, .nils)])]⟩) ?_ (fun T hw => ?_)
  ·refine ns ?_
   refine Zm false (fun ZDU => ?_) (fun ZDU => ?_)
   ·(conv => whnf)
    refine st ?_
    exact wx (WS.mk (tc (tp (tp (Zd (Zr (web ZDU)) Zc)))) (Zf rfl (cc (cc (cc (cc Zh)))) (Zf rfl (cc (cc (cc (cc Zh)))) Zb)))
   ·(conv => whnf)
    refine st ?_
    exact wx (WS.mk (tc (tp (tp (Zd (Zr (web ZDU)) Zc)))) (Zf rfl (cc (cc (cc (cc Zh)))) (Zf rfl (cc (cc (cc (cc Zh)))) Zb)))
  obtain ⟨r0, hw⟩ := hw
  (conv => whnf)
  refine AWP.weak r0 hw ?_
  refine nw ?_
  refine Zi hF (fun ZDy hF => ?_) (fun ZDy hF => ?_)
  ·refine AWP.seq ?_
   refine ns ?_
   obtain rfl := Zg hF
   refine ns ?_
   refine Exists.intro [] ?_
   refine st ?_
   exact wx (WS.mk (Zd (Zt (lc (lc (ZaR WE.nil (ZaR WE.nil Zo))))) Zc) Zb)
  ·refine nw ?_
   refine AWP.seq ?_
   obtain ⟨r70, ZDF, hF⟩ := bind_some hF
   refine ns ?_
   refine e3 ?_
   refine st ?_
   refine cm (Zj.weak (rn []) (ZnM s t _ ZDF) rfl (WS.mk (tc (Zd (Zt (lc (lc (lc (lc Zo))))) Zc)) Zb)) ?_
   refine st ?_
   obtain rfl := Zg hF
   refine ns ?_
   refine Exists.intro [] ?_
   refine st ?_
   exact wx (WS.mk (Zd (Zt (lc (lc (lc (lc Zo))))) Zc) Zb)

def Za3 (s : (List Ze)) (t : Za) : Option (Za) :=
 ZaI t >>= fun r3 =>
 if (r3 != 0) = true then
 some (Za.mk 0 (ByteArray.mk #[]) (Zk.mk ([] : List Zk)) ([] : List Za))
 else
 Zbh s 0 t s
def Za3.M (s : (List Ze)) (t : Za) (r : Za) : Prop :=
 Zj Tryz.prog 17 [.c none (.sl (s.map Ze.cells)), .agg [.v (.int .i64 t.fOp), .v (.string t.fName), .sl (t.fBound.fArgs.map Zk.cells), .sl (t.fKids.map Za.cells)]] [] (fun d b => d = .agg [.v (.int .i64 r.fOp), .v (.string r.fName), .sl (r.fBound.fArgs.map Zk.cells), .sl (r.fKids.map Za.cells)] ∧ b = [])
theorem Ze4 (s : (List Ze)) (t : Za) (r : Za) (hF : Za3 s t = some r) : Za3.M s t r := by
 unfold Za3 at hF
 unfold Za3.M
 refine en Tryz.func17 ?_
 refine AWP.seq ?_
 refine ns ?_
 refine AWP.seq ?_
 refine AWP.seq ?_
 obtain ⟨r3, hr3, hF⟩ := bind_some hF
 refine ns ?_
 refine e3 ?_
 refine st ?_
 refine cm (Zj.weak (rn []) (ZdH t _ hr3) rfl (WS.mk (Zd (Zt (lc (lc (lc (lc Zo))))) Zc) Zb)) ?_
 refine st ?_
 refine nw ?_
 refine Zi hF (fun hc4 hF => ?_) (fun hc4 hF => ?_)
 ·refine AWP.seq ?_
  refine ns ?_
  obtain rfl := Zg hF
  refine ns ?_
  refine Exists.intro [] ?_
  refine st ?_
  exact wx (WS.mk (Zd (Zt (lc (lc (ZaR WE.nil (ZaR WE.nil Zo))))) Zc) Zb)
 ·refine nw ?_
  refine AWP.seq ?_
  refine AWP.seq ?_
  refine ns ?_
  refine AWP.block ?_
  refine AWP.loop ?_
  refine AWL.weak (rn []) ?_ (Zln s 0 t s _ hF ([]) rfl rfl)
  exact (WS.mk (tc (tp (tp (tc Zc)))) (Zf rfl (cc (cc (cc (cc Zh)))) (Zf rfl (cc (cc (cc (cc Zh)))) Zb)))

def Zac (v : ByteArray) (r5 : (Za)) (s : Zu) (Zlk : Nat) (ZD : (List Ze)) : Option (Int × Zu) :=
 if (decide (((Zlk : Nat) : Int) < ((s.flist.length : Nat) : Int))) = true then
 (ZD[Zlk]?) >>= fun x52 =>
 Zee ([(Ze.mk v r5)]) x52.fType >>= fun r53 =>
 if (r53.fOp == 0) = true then
 some (3, Zu.mk ZD s.fat)
 else
 (ZD[Zlk]?) >>= fun x57 =>
 Zac v r5 s (Zlk + 1) (ZD.set Zlk (Ze.mk x57.fName r53))
 else
 Z4 ((ZD.length + ([(Ze.mk v r5)]).length) * 88 ≤ 140737488355328) >>= fun _ =>
 some (0, Zu.mk (ZD ++ ([(Ze.mk v r5)])) (ZhV s.fat v ((ZD.length : Nat) : Int)))
 partial_fixpoint
def Zac.M (v : ByteArray) (r5 : (Za)) (s : Zu) (Zlk : Nat) (ZD : (List Ze)) (r : Int × Zu) : Prop :=
 s.flist.length ≤ maxLen → AWL Tryz.prog 77 (Code.sub (Zq Tryz.f53) [1, 1, 1, 1, 1, 0, 1, 0, 0]) (Code.cont Tryz.prog 77 (Zq Tryz.f53) [1, 1, 1, 1, 1, 0, 1, 0] (ZbV tab Tryz.f53.results (ZbX (.c none (.v (.int .i64 r.1))) [(1000, [(none, .rs 7001 r.2.flist.length), (none, .rf 1002)]), (1002, [(none, .ob 109 (r.2.fat.map (Zeb c_S Zcu)))]), (7001, [(none, .ob 90 (r.2.flist.map Ze.cells))])]))) ⟨[(0, .ptr 1000 0), (1, .c none (.v (.string v))), (8, .c (some (8, 45)) (.sl (([(Ze.mk v r5)]).map Ze.cells))), (32, .c none (.rs 7001 ZD.length)), (33, .c none (.v (.int .i64 ((s.flist.length : Nat) : Int)))), (34, .c none (.v (.int .i64 ((Zlk : Nat) : Int))))], [(1000, [(none, .rs 7001 ZD.length), (none, .rf 1002)]), (1002, [(none, .ob 109 (s.fat.map (Zeb c_S Zcu)))]), (7001, [(none, .ob 90 (ZD.map Ze.cells))])]⟩
theorem ZkP (v : ByteArray) (r5 : (Za)) (s : Zu) (Zlk : Nat) (ZD : (List Ze)) : ∀ r, Zac v r5 s Zlk ZD = some r → Zac.M v r5 s Zlk ZD r := by
 refine Zac.partial_correctness v r5 s (fun Zlk ZD r => Zac.M v r5 s Zlk ZD r) ?_ Zlk ZD
 intro unify_solver_bind_l1' ZgO Zlk ZD r hF
 have Zk6 := fun (_v : ByteArray) (_r5 : (Za)) (_s : Zu) (Zlk : Nat) (ZD : (List Ze)) => ZgO Zlk ZD
 clear ZgO
 unfold Zac.M
 intro hlen33
 refine AWL.step ?_
 refine AWP.seq ?_
 refine ns ?_
 refine AWP.seq ?_
 refine nw ?_
 refine Zi hF (fun Zpo hF => ?_) (fun Zpo hF => ?_)
 ·have ZDM := ZpF Zpo
  refine nw ?_
  refine AWP.seq ?_
  refine AWP.block ?_
  refine AWP.seq ?_
  obtain ⟨x52, ZFI, hF⟩ := bind_some hF
  refine ns ?_
  refine And.intro (ZtO ZFI) ?_
  refine st ?_
  refine sr (Zab (f := Ze.cells) (Ze.cells_eq x52) ZFI) ?_
  refine st ?_
  refine AWP.seq ?_
  obtain ⟨r53, ZyH, hF⟩ := bind_some hF
  refine ns ?_
  refine Exists.intro [8] (Exists.intro [] (Exists.intro [] ?_))
  refine st ?_
  refine cm (Zj.weak (rn []) (Zqc ([(Ze.mk v r5)]) x52.fType _ ZyH) rfl (WS.mk (tc (Zd (Zt (lc (lc (lc (lc Zo))))) Zc)) Zb)) ?_
  refine st ?_
  refine AWP.seq ?_
  refine AWP.seq ?_
  refine ns ?_
  refine nw ?_
  refine Zi hF (fun Ztv hF => ?_) (fun Ztv hF => ?_)
  ·refine AWP.seq ?_
   refine ns ?_
   obtain rfl := Zg hF
   refine ns ?_
   refine Exists.intro [(1000, 1000), (7001, 7001), (1002, 1002)] ?_
   refine st ?_
   exact wx (WS.mk (tc Zc) (Zf rfl (Ze2 (Zae (by first | exact rfl | simp only [List.length_set])) (cc Zh)) (Zf rfl (cc Zh) (Zf rfl (cc Zh) Zb))))
  ·refine nw ?_
   obtain ⟨x57, ZF4, hF⟩ := bind_some hF
   refine nn ?_
   refine Or.inl (Exists.intro 6 (Exists.intro [[], [], [], [], [], []] (Exists.intro [([46, 47, 48, 49, 50, 51], [], []), ([47, 48, 49, 50, 51], [], []), ([48, 49, 50, 51], [], []), ([49, 50, 51], [], []), ([46, 47, 48, 49, 50, 51], [], []), ([46, 47, 48, 49, 50, 51], [], [])] (Exists.intro [46, 47, 48, 49, 50, 51] (And.intro (by decide +kernel) ?_)))))
   refine dp ?_
   refine dp ?_
   refine dp ?_
   refine dp ?_
   refine dp ?_
   refine dp ?_
   refine st ?_
   refine And.intro (ZtO ZF4) ?_
   refine st ?_
   refine sr (Zab (f := Ze.cells) (Ze.cells_eq x57) ZF4) ?_
   refine Exists.intro ((ZD.set Zlk (Ze.mk x57.fName r53)).map Ze.cells) (And.intro (ZCn (ZdA (Ze.cells_eq (Ze.mk x57.fName r53)) (lc (lc (lc (lc (lc Zo))))))) ?_)
   refine st ?_
   refine ns ?_
   refine AWL.weak (rn [(8, 8)]) ?_ (Zk6 v r5 s (Zlk + 1) (ZD.set Zlk (Ze.mk x57.fName r53)) _ hF hlen33)
   exact (WS.mk (tp (tc (Zd (Zak rfl (WE.refl _)) (Zd (Zr (Zae (by first | exact rfl | simp only [List.length_set]))) (tc (Zd (Zr (Zdf (ZV hlen33 ZDM))) Zc)))))) (Zf rfl (Ze2 (Zae (by first | exact rfl | simp only [List.length_set])) (cc Zh)) (Zf rfl (cc Zh) (Zf rfl (cc Zh) Zb))))
 ·refine nw ?_
  refine AWP.seq ?_
  refine nn ?_
  refine Or.inl (Exists.intro 10 (Exists.intro [[], [], [], [], [], [], [], [], [], []] (Exists.intro [([55, 56, 57, 58, 59, 60, 61, 62, 63, 64], [], []), ([56, 57, 58, 59, 60, 61, 62, 63, 64], [], []), ([57, 58, 59, 60, 61, 62, 63, 64], [], []), ([58, 59, 60, 61, 62, 63, 64], [], []), ([55, 56, 57, 58, 59, 60, 61, 62, 63, 64], [], []), ([55, 56, 57, 58, 59, 60, 61, 62, 63, 64], [], []), ([55, 56, 57, 58, 59, 61, 62, 63, 64], [], []), ([55, 56, 57, 58, 59, 62, 63, 64], [], []), ([55, 56, 57, 58, 59, 63, 64], [], []), ([55, 56, 57, 58, 59, 64], [], [])] (Exists.intro [55, 56, 57, 58, 59, 60, 61, 62, 63, 64] (And.intro (by decide +kernel) ?_)))))
  refine dp ?_
  refine dp ?_
  refine dp ?_
  refine dp ?_
  refine dp ?_
  refine dp ?_
  refine dp ?_
  refine dp ?_
  refine dp ?_
  refine dl ?_
  refine st ?_
  refine Zo9 (m := s.fat) (k := v) (v := ((ZD.length : Nat) : Int)) ZhI (ev := Zcu) (lc Zo) ?_
  refine st ?_
  refine AWP.seq ?_
  obtain ⟨ZHS, hF⟩ := Zy hF
  refine nn ?_
  refine Or.inr (Exists.intro [0, 5, 6, 7, 8] (Exists.intro [[65, 70, 71, 72, 73], [65, 70, 71, 72, 73], [65, 71, 72, 73], [65, 72, 73], [65, 73]] (Exists.intro [] (Exists.intro [0, 8, 65, 70, 71, 72, 73] (Exists.intro [65, 70, 71, 72, 73] (Exists.intro [1, 2, 3, 4, 9, 10, 11, 12] (And.intro (by decide +kernel) ?_)))))))
  refine dp ?_
  refine dp ?_
  refine dp ?_
  refine dp ?_
  refine de (Zbv (f := Ze.cells) (ZdA (Ze.cells_eq (Ze.mk v r5)) (lc (lc (lc (lc (lc Zo)))))) (ZY (f := Ze.cells))) ?_
  refine sa (fun l => ZbS l (fun x => Ze.cells_len x)) ZHS ?_
  refine Exists.intro (([(Ze.mk v r5)]).map Ze.cells) (Exists.intro ((ZD ++ ([(Ze.mk v r5)])).map Ze.cells) (Exists.intro (ZD ++ ([(Ze.mk v r5)])).length (And.intro (WE.refl _) (And.intro (Zra (by first | exact rfl | simp only [List.length_set])) (And.intro (Zrx (by first | exact rfl | simp only [List.length_set]) (by first | exact List.length_map _ | exact rfl)) ?_)))))
  refine st ?_
  refine AWP.seq ?_
  refine ns ?_
  obtain rfl := Zg hF
  refine ns ?_
  refine Exists.intro [(1000, 1000), (7001, 7001), (1002, 1002)] ?_
  refine st ?_
  exact wx (WS.mk (tc Zc) (Zf rfl (Ze2 (Zae (by first | exact rfl | simp only [List.length_set])) (cc Zh)) (Zf rfl (cc Zh) (Zf rfl (cc Zh) Zb))))

def ZaD (s : Zu) (v : ByteArray) (t : Za) : Option (Int × Zu) :=
 Zcx s v t >>= fun r3 =>
 if r3 = true then
 some (23, s)
 else
 ZeO s.flist t >>= fun r5 =>
 if (r5.fOp == 0) = true then
 some (3, s)
 else
 Zac v r5 s 0 s.flist
def ZaD.M (s : Zu) (v : ByteArray) (t : Za) (r : Int × Zu) : Prop :=
 Zj Tryz.prog 53 [.ptr 1000 0, .c none (.v (.string v)), .agg [.v (.int .i64 t.fOp), .v (.string t.fName), .sl (t.fBound.fArgs.map Zk.cells), .sl (t.fKids.map Za.cells)]] [(1000, [(none, .rs 7001 s.flist.length), (none, .rf 1002)]), (1002, [(none, .ob 109 (s.fat.map (Zeb c_S Zcu)))]), (7001, [(none, .ob 90 (s.flist.map Ze.cells))])] (fun d b => d = .c none (.v (.int .i64 r.1)) ∧ b = [(1000, [(none, .rs 7001 r.2.flist.length), (none, .rf 1002)]), (1002, [(none, .ob 109 (r.2.fat.map (Zeb c_S Zcu)))]), (7001, [(none, .ob 90 (r.2.flist.map Ze.cells))])])
theorem ZiE (s : Zu) (v : ByteArray) (t : Za) (r : Int × Zu) (hF : ZaD s v t = some r) : ZaD.M s v t r := by
 unfold ZaD at hF
 unfold ZaD.M
 refine en Tryz.func53 ?_
 refine AWP.seq ?_
 refine ns ?_
 refine AWP.seq ?_
 refine AWP.seq ?_
 obtain ⟨r3, hr3, hF⟩ := bind_some hF
 refine ns ?_
 refine Exists.intro [] (Exists.intro [(1000, 1000), (7001, 1001), (1002, 1002)] (Exists.intro [] ?_))
 refine st ?_
 refine cm (Zj.weak (rn []) (Zlp s v t _ hr3) rfl (WS.mk (tp (tc (Zd (Zt (lc (lc (lc (lc Zo))))) Zc))) (Zf rfl (Ze2 (Zae (by first | exact rfl | simp only [List.length_set])) (cc Zh)) (Zf rfl (cc Zh) (Zf rfl (cc Zh) Zb))))) ?_
 refine st ?_
 refine nw ?_
 refine Zi hF (fun hc4 hF => ?_) (fun hc4 hF => ?_)
 ·refine AWP.seq ?_
  refine ns ?_
  obtain rfl := Zg hF
  refine ns ?_
  refine Exists.intro [(1000, 1000), (7001, 7001), (1002, 1002)] ?_
  refine st ?_
  exact wx (WS.mk (tc Zc) (Zf rfl (Ze2 (Zae (by first | exact rfl | simp only [List.length_set])) (cc Zh)) (Zf rfl (cc Zh) (Zf rfl (cc Zh) Zb))))
 ·refine nw ?_
  refine AWP.seq ?_
  obtain ⟨r5, hr5, hF⟩ := bind_some hF
  refine nn ?_
  refine Or.inl (Exists.intro 7 (Exists.intro [[], [], [], [], [], [7001], [7]] (Exists.intro [([16, 17, 18, 19, 20, 21, 7], [7], []), ([17, 18, 19, 20, 21, 7], [7], []), ([18, 19, 20, 21, 7], [7], []), ([19, 20, 21, 7], [7], []), ([16, 17, 18, 19, 20, 21, 7], [7], []), ([21, 7], [7], [7001]), ([16, 17, 18, 19, 20, 21, 7], [7001], [7])] (Exists.intro [16, 17, 18, 19, 20, 21, 7] (And.intro (by decide +kernel) ?_)))))
  refine dp ?_
  refine dp ?_
  refine dp ?_
  refine dp ?_
  refine dp ?_
  (refine st ?_; apply Exists.intro; apply Exists.intro; apply And.intro; (focus ((conv => whnf); refine Exists.intro [(7001, 1000)] ?_; (conv => whnf); refine And.intro rfl ?_; (conv => whnf); refine Zj.mono (Zj.weak (rn []) (ZrL s.flist t _ hr5) rfl (WS.mk (Zd (Zr (Zae (by first | exact rfl | simp only [List.length_set]))) (Zd (Zt (lc (lc (lc (lc Zo))))) Zc)) (Zf rfl (cc Zh) Zb))) ?_; rintro d b ⟨rfl, rfl⟩; exact And.intro rfl (And.intro rfl rfl))); apply And.intro; (focus exact rfl); (conv => whnf))
  refine dp ?_
  refine st ?_
  refine AWP.seq ?_
  refine AWP.seq ?_
  refine ns ?_
  refine nw ?_
  refine Zi hF (fun hc7 hF => ?_) (fun hc7 hF => ?_)
  ·refine AWP.seq ?_
   refine ns ?_
   obtain rfl := Zg hF
   refine ns ?_
   refine Exists.intro [(1000, 1000), (7001, 7001), (1002, 1002)] ?_
   refine st ?_
   exact wx (WS.mk (tc Zc) (Zf rfl (Ze2 (Zae (by first | exact rfl | simp only [List.length_set])) (cc Zh)) (Zf rfl (cc Zh) (Zf rfl (cc Zh) Zb))))
  ·refine nw ?_
   refine AWP.seq ?_
   refine ns ?_
   refine Exists.intro _ (And.intro (Zbv (f := Ze.cells) (ZdA (Ze.cells_eq (Ze.mk v r5)) (lc (lc (lc (lc (lc Zo)))))) (ZY (f := Ze.cells))) ?_)
   refine st ?_
   refine AWP.seq ?_
   refine AWP.seq ?_
   refine ns ?_
   intro hlen33
   (try rw [List.length_map] at hlen33)
   (try rw [List.length_map])
   refine st ?_
   refine AWP.block ?_
   refine AWP.loop ?_
   refine AWL.weak (rn [(28, 8)]) ?_ (ZkP v r5 s 0 s.flist _ hF hlen33)
   exact (WS.mk (tp (tc (Zd (Zak rfl (WE.refl _)) (Zd (Zr (Zae (by first | exact rfl | simp only [List.length_set]))) (tc (tc Zc)))))) (Zf rfl (Ze2 (Zae (by first | exact rfl | simp only [List.length_set])) (cc Zh)) (Zf rfl (cc Zh) (Zf rfl (cc Zh) Zb))))

def ZbC (s : (List Ze)) (name_ : ByteArray) (r5 : (Za)) (Zgs : (List Ze)) (Zhj : Nat) (ZdD : (List Ze)) : Option ((List Ze) × Int) :=
 (match ZdD with
 | x71 :: ZC9 =>
 Za3 ([(Ze.mk name_ r5)]) x71.fType >>= fun r74 =>
 if (r74.fOp == 0) = true then
 some (([] : List Ze), 3)
 else
 Z4 ((Zgs.length + ([(Ze.mk x71.fName r74)]).length) * 88 ≤ 140737488355328) >>= fun _ =>
 ZbC s name_ r5 (Zgs ++ ([(Ze.mk x71.fName r74)])) (Zhj + 1) ZC9
 | [] =>
 Z4 ((Zgs.length + ([(Ze.mk name_ r5)]).length) * 88 ≤ 140737488355328) >>= fun _ =>
 some (Zgs ++ ([(Ze.mk name_ r5)]), 0))
 partial_fixpoint
def ZbC.M (s : (List Ze)) (name_ : ByteArray) (r5 : (Za)) (Zgs : (List Ze)) (Zhj : Nat) (ZdD : (List Ze)) (r : (List Ze) × Int) : Prop :=
 ∀ ZgG : List Ze, s = ZgG ++ ZdD → Zhj = ZgG.length → AWL Tryz.prog 60 (Code.sub (Zq Tryz.f35) [1, 1, 1, 1, 1, 1, 0, 1, 0, 0]) (Code.cont Tryz.prog 60 (Zq Tryz.f35) [1, 1, 1, 1, 1, 1, 0, 1, 0] (ZbV tab Tryz.f35.results (ZbX (.tup [.c (.sl (r.1.map Ze.cells)), .c (.v (.int .i64 r.2))]) []))) ⟨[(0, .c none (.sl (s.map Ze.cells))), (9, .c (some (9, 45)) (.sl (([(Ze.mk name_ r5)]).map Ze.cells))), (10, .c (some (10, 45)) (.sl (Zgs.map Ze.cells))), (11, .c none (.v (.int .i64 ((Zhj : Nat) : Int))))], []⟩
theorem Zmg (s : (List Ze)) (name_ : ByteArray) (r5 : (Za)) (Zgs : (List Ze)) (Zhj : Nat) (ZdD : (List Ze)) : ∀ r, ZbC s name_ r5 Zgs Zhj ZdD = some r → ZbC.M s name_ r5 Zgs Zhj ZdD r := by
 refine ZbC.partial_correctness s name_ r5 (fun Zgs Zhj ZdD r => ZbC.M s name_ r5 Zgs Zhj ZdD r) ?_ Zgs Zhj ZdD
 intro lazycref18_bind_l1' Zht Zgs Zhj ZdD r hF
 have Zma := fun (_s : (List Ze)) (_name_ : ByteArray) (_r5 : (Za)) (Zgs : (List Ze)) (Zhj : Nat) (ZdD : (List Ze)) => Zht Zgs Zhj ZdD
 clear Zht
 unfold ZbC.M
 intro ZgG Znq Zng
 refine AWL.step ?_
 refine AWP.seq ?_
 refine AWP.seq ?_
 refine ns ?_
 intro hlen70
 (try rw [List.length_map] at hlen70)
 (try rw [List.length_map])
 refine st ?_
 refine nw ?_
 refine ZN Znq Zng (fun x71 ZC9 ZCR ZGe ZIr => ?_) (fun ZCR => ?_)
 ·subst ZCR
  refine nw ?_
  refine AWP.seq ?_
  refine AWP.block ?_
  refine AWP.seq ?_
  obtain ⟨r74, ZHu, hF⟩ := bind_some hF
  refine nn ?_
  refine sr (Zab (f := Ze.cells) (Ze.cells_eq x71) ZGe) ?_
  refine st ?_
  refine Exists.intro [9] (Exists.intro [] (Exists.intro [] ?_))
  refine st ?_
  refine cm (Zj.weak (rn []) (Ze4 ([(Ze.mk name_ r5)]) x71.fType _ ZHu) rfl (WS.mk (tc (Zd (Zt (lc (lc (lc (lc Zo))))) Zc)) Zb)) ?_
  refine st ?_
  refine AWP.seq ?_
  refine AWP.seq ?_
  refine ns ?_
  refine nw ?_
  refine Zi hF (fun ZAS hF => ?_) (fun ZAS hF => ?_)
  ·refine AWP.seq ?_
   refine ns ?_
   obtain rfl := Zg hF
   refine ns ?_
   refine Exists.intro [] ?_
   refine st ?_
   exact wx (WS.mk (Zd (Zc9 (ZcC WE.nil (ZcC (WE.refl _) Zc6))) Zc) Zb)
  ·refine nw ?_
   obtain ⟨ZGY, hF⟩ := Zy hF
   refine nn ?_
   refine Or.inl (Exists.intro 9 (Exists.intro [[], [], [], [], [], [], [], [], []] (Exists.intro [([44, 45, 46, 47, 48, 49, 50, 51, 52], [], []), ([44, 45, 46, 47, 48, 49, 50, 51, 52], [], []), ([44, 45, 46, 47, 48, 49, 50, 51, 52], [], []), ([44, 47, 48, 49, 50, 51, 52], [], []), ([44, 48, 49, 50, 51, 52], [], []), ([44, 49, 50, 51, 52], [], []), ([44, 45, 46, 47, 48, 49, 50, 51, 52], [], []), ([44, 51, 52], [], []), ([44, 52], [], [])] (Exists.intro [44, 45, 46, 47, 48, 49, 50, 51, 52] (And.intro (by decide +kernel) ?_)))))
   refine dp ?_
   refine dp ?_
   refine dp ?_
   refine dr (Zab (Ze.cells_eq x71) ZGe) ?_
   refine dp ?_
   refine dp ?_
   refine dp ?_
   refine dp ?_
   refine de (Zbv (f := Ze.cells) (ZdA (Ze.cells_eq (Ze.mk x71.fName r74)) (lc (lc (lc (lc (lc Zo)))))) (ZY (f := Ze.cells))) ?_
   refine sa (fun l => ZbS l (fun x => Ze.cells_len x)) ZGY ?_
   refine Exists.intro _ (And.intro (WE.refl _) ?_)
   rw [← List.map_append]
   refine st ?_
   refine ns ?_
   refine AWL.weak (rn [(9, 9), (53, 10)]) ?_ (Zma s name_ r5 (Zgs ++ ([(Ze.mk x71.fName r74)])) (Zhj + 1) ZC9 _ hF (ZgG ++ [x71]) (by rw [Znq]; simp) (by rw [Zng]; simp))
   exact (WS.mk (tc (Zd (Zak rfl (WE.refl _)) (Zd (Zak rfl (WE.refl _)) (Zd (Zr (Zdf (ZV hlen70 ZIr))) Zc)))) Zb)
 ·subst ZCR
  refine nw ?_
  refine AWP.seq ?_
  obtain ⟨ZIu, hF⟩ := Zy hF
  refine ns ?_
  refine Exists.intro _ (And.intro (Zbv (f := Ze.cells) (ZdA (Ze.cells_eq (Ze.mk name_ r5)) (lc (lc (lc (lc (lc Zo)))))) (ZY (f := Ze.cells))) ?_)
  refine sa (fun l => ZbS l (fun x => Ze.cells_len x)) ZIu ?_
  refine Exists.intro _ (And.intro (WE.refl _) ?_)
  rw [← List.map_append]
  refine st ?_
  obtain rfl := Zg hF
  refine ns ?_
  refine Exists.intro [] ?_
  refine st ?_
  exact wx (WS.mk (Zd (Zc9 (ZcC (WE.refl _) (ZcC (WE.refl _) Zc6))) Zc) Zb)

def Za7 (s : (List Ze)) (name_ : ByteArray) (t : Za) : Option ((List Ze) × Int) :=
 Z2 s name_ t >>= fun r3 =>
 if r3 = true then
 some (([] : List Ze), 23)
 else
 Za3 s t >>= fun r5 =>
 if (r5.fOp == 0) = true then
 some (([] : List Ze), 3)
 else
 ZbC s name_ r5 ([] : List Ze) 0 s
def Za7.M (s : (List Ze)) (name_ : ByteArray) (t : Za) (r : (List Ze) × Int) : Prop :=
 Zj Tryz.prog 35 [.c none (.sl (s.map Ze.cells)), .c none (.v (.string name_)), .agg [.v (.int .i64 t.fOp), .v (.string t.fName), .sl (t.fBound.fArgs.map Zk.cells), .sl (t.fKids.map Za.cells)]] [] (fun d b => d = .tup [.c (.sl (r.1.map Ze.cells)), .c (.v (.int .i64 r.2))] ∧ b = [])
theorem ZjQ (s : (List Ze)) (name_ : ByteArray) (t : Za) (r : (List Ze) × Int) (hF : Za7 s name_ t = some r) : Za7.M s name_ t r := by
 unfold Za7 at hF
 unfold Za7.M
 refine en Tryz.func35 ?_
 refine AWP.seq ?_
 refine ns ?_
 refine AWP.seq ?_
 refine AWP.seq ?_
 obtain ⟨r3, hr3, hF⟩ := bind_some hF
 refine ns ?_
 refine e3 ?_
 refine st ?_
 refine cm (Zj.weak (rn []) (Zmu s name_ t _ hr3) rfl (WS.mk (tc (tc (Zd (Zt (lc (lc (lc (lc Zo))))) Zc))) Zb)) ?_
 refine st ?_
 refine nw ?_
 refine Zi hF (fun hc4 hF => ?_) (fun hc4 hF => ?_)
 ·refine AWP.seq ?_
  refine ns ?_
  obtain rfl := Zg hF
  refine ns ?_
  refine Exists.intro [] ?_
  refine st ?_
  exact wx (WS.mk (Zd (Zc9 (ZcC WE.nil (ZcC (WE.refl _) Zc6))) Zc) Zb)
 ·refine nw ?_
  refine AWP.seq ?_
  obtain ⟨r5, hr5, hF⟩ := bind_some hF
  refine ns ?_
  refine e3 ?_
  refine st ?_
  refine cm (Zj.weak (rn []) (Ze4 s t _ hr5) rfl (WS.mk (tc (Zd (Zt (lc (lc (lc (lc Zo))))) Zc)) Zb)) ?_
  refine st ?_
  refine AWP.seq ?_
  refine AWP.seq ?_
  refine ns ?_
  refine nw ?_
  refine Zi hF (fun hc7 hF => ?_) (fun hc7 hF => ?_)
  ·refine AWP.seq ?_
   refine ns ?_
   obtain rfl := Zg hF
   refine ns ?_
   refine Exists.intro [] ?_
   refine st ?_
   exact wx (WS.mk (Zd (Zc9 (ZcC WE.nil (ZcC (WE.refl _) Zc6))) Zc) Zb)
  ·refine nw ?_
   refine AWP.seq ?_
   refine ns ?_
   refine Exists.intro _ (And.intro (Zbv (f := Ze.cells) (ZdA (Ze.cells_eq (Ze.mk name_ r5)) (lc (lc (lc (lc (lc Zo)))))) (ZY (f := Ze.cells))) ?_)
   refine st ?_
   refine AWP.seq ?_
   refine ns ?_
   refine Exists.intro _ (And.intro (ZY (f := Ze.cells)) ?_)
   refine st ?_
   refine AWP.seq ?_
   refine AWP.seq ?_
   refine ns ?_
   refine AWP.block ?_
   refine AWP.loop ?_
   refine AWL.weak (rn [(26, 9), (27, 10)]) ?_ (Zmg s name_ r5 ([] : List Ze) 0 s _ hF ([]) rfl rfl)
   exact (WS.mk (tc (Zd (Zak rfl (WE.refl _)) (Zd (Zak rfl (WE.refl _)) (tc Zc)))) Zb)

mutual
def ZB (Zax : (List (ByteArray × Int))) (ZD : (List Ze)) (Zbn : (List Zl)) : Option (Int × Zu × (List Zl)) :=
 if (decide (((Zbn.length : Nat) : Int) > 0)) = true then
 (ixI Zbn (IntKind.i64.wrap (((Zbn.length : Nat) : Int) - 1))) >>= fun x95 =>
 ZaO (Zu.mk ZD Zax) x95.e0 >>= fun r96 =>
 (ixI Zbn (IntKind.i64.wrap (((Zbn.length : Nat) : Int) - 1))) >>= fun x97 =>
 ZaO (Zu.mk ZD Zax) x97.e1 >>= fun r98 =>
 (slL Zbn ((0 : Nat) : Int) (IntKind.i64.wrap (((Zbn.length : Nat) : Int) - 1))) >>= fun Zi8 =>
 if (((r96.fOp == 1) && (r98.fOp == 1)) && (r96.fName.toList == r98.fName.toList)) = true then
 Zp 0 Zax ZD Zi8
 else
 if (r96.fOp == 1) = true then
 ZaD (Zu.mk ZD Zax) r96.fName r98 >>= fun Zv2 =>
 Zp Zv2.1 Zv2.2.fat Zv2.2.flist Zi8
 else
 if (r98.fOp == 1) = true then
 ZaD (Zu.mk ZD Zax) r98.fName r96 >>= fun ZvO =>
 Zp ZvO.1 ZvO.2.fat ZvO.2.flist Zi8
 else
 if (((r96.fOp == 2) && (r98.fOp == 2)) && (r96.fName.toList == r98.fName.toList)) = true then
 Zp 0 Zax ZD Zi8
 else
 if ((r96.fOp == 3) && (r98.fOp == 3)) = true then
 (ixI r96.fKids 1) >>= fun Zte =>
 (ixI r98.fKids 1) >>= fun ZtB =>
 (ixI r96.fKids 0) >>= fun Zt2 =>
 (ixI r98.fKids 0) >>= fun ZtG =>
 Z4 ((Zi8.length + ([(Zl.mk Zte ZtB), (Zl.mk Zt2 ZtG)]).length) * 144 ≤ 140737488355328) >>= fun _ =>
 Zp 0 Zax ZD (Zi8 ++ ([(Zl.mk Zte ZtB), (Zl.mk Zt2 ZtG)]))
 else
 Zp 22 Zax ZD Zi8
 else
 some (0, Zu.mk ZD Zax, Zbn)
 partial_fixpoint
def Zp (e_7 : Int) (Zax : (List (ByteArray × Int))) (ZD : (List Ze)) (Zbn : (List Zl)) : Option (Int × Zu × (List Zl)) :=
 if (e_7 != 0) = true then
 some (e_7, Zu.mk ([] : List Ze) ([] : List (ByteArray × Int)), Zbn)
 else
 ZB Zax ZD Zbn
 partial_fixpoint
end
def ZB.M (Zax : (List (ByteArray × Int))) (ZD : (List Ze)) (Zbn : (List Zl)) (r : Int × Zu × (List Zl)) : Prop :=
 AWL Tryz.prog 124 (Code.sub (Zq Tryz.f32) [1, 0, 0, 0]) (Code.cont Tryz.prog 124 (Zq Tryz.f32) [1, 0, 0] (ZbV tab Tryz.f32.results (ZbX (.c none (.v (.int .i64 r.1))) [(1000, [(none, .rs 7001 r.2.1.flist.length), (none, .rf 1002)]), (1002, [(none, .ob 109 (r.2.1.fat.map (Zeb c_S Zcu)))]), (7001, [(none, .ob 90 (r.2.1.flist.map Ze.cells))]), (7003, [(none, .ob 76 (r.2.2.map Zl.cells))])]))) ⟨[(0, .ptr 1000 0), (1, .c none (.rs 7003 Zbn.length))], [(1000, [(none, .rs 7001 ZD.length), (none, .rf 1002)]), (1002, [(none, .ob 109 (Zax.map (Zeb c_S Zcu)))]), (7001, [(none, .ob 90 (ZD.map Ze.cells))]), (7003, [(none, .ob 76 (Zbn.map Zl.cells))])]⟩
def Zp.M (e_7 : Int) (Zax : (List (ByteArray × Int))) (ZD : (List Ze)) (Zbn : (List Zl)) (r : Int × Zu × (List Zl)) : Prop :=
 AWP Tryz.prog 124 (Code.sub (Zq Tryz.f32) [1, 0, 0, 0, 1, 0, 1, 1, 1, 1]) (Code.cont Tryz.prog 124 (Zq Tryz.f32) [1, 0, 0, 0, 1, 0, 1, 1, 1, 1] (ZbV tab Tryz.f32.results (ZbX (.c none (.v (.int .i64 r.1))) [(1000, [(none, .rs 7001 r.2.1.flist.length), (none, .rf 1002)]), (1002, [(none, .ob 109 (r.2.1.fat.map (Zeb c_S Zcu)))]), (7001, [(none, .ob 90 (r.2.1.flist.map Ze.cells))]), (7003, [(none, .ob 76 (r.2.2.map Zl.cells))])]))) ⟨[(0, .ptr 1000 0), (1, .c none (.rs 7003 Zbn.length)), (7, .c none (.v (.int .i64 e_7)))], [(1000, [(none, .rs 7001 ZD.length), (none, .rf 1002)]), (1002, [(none, .ob 109 (Zax.map (Zeb c_S Zcu)))]), (7001, [(none, .ob 90 (ZD.map Ze.cells))]), (7003, [(none, .ob 76 (Zbn.map Zl.cells))])]⟩
theorem Zgn : (∀ (Zax : (List (ByteArray × Int))) (ZD : (List Ze)) (Zbn : (List Zl)), ∀ r, ZB Zax ZD Zbn = some r → ZB.M Zax ZD Zbn r) ∧ (∀ (e_7 : Int) (Zax : (List (ByteArray × Int))) (ZD : (List Ze)) (Zbn : (List Zl)), ∀ r, Zp e_7 Zax ZD Zbn = some r → Zp.M e_7 Zax ZD Zbn r) := by
 refine ZB.mutual_partial_correctness ZB.M Zp.M ?_ ?_
 ·intro unify_solver_solve_k2' Zcv Zax ZD Zbn r hF
  unfold ZB.M
  refine AWL.step ?_
  refine AWP.seq ?_
  refine AWP.seq ?_
  refine ns ?_
  intro hlen93
  (try rw [List.length_map] at hlen93)
  (try rw [List.length_map])
  refine st ?_
  refine nw ?_
  refine Zi hF (fun ZIg hF => ?_) (fun ZIg hF => ?_)
  ·refine nw ?_
   refine AWP.block ?_
   refine AWP.seq ?_
   obtain ⟨x95, ZFD, ZE6, hF⟩ := ZcJ hF
   obtain ⟨r96, ZHt, hF⟩ := bind_some hF
   obtain ⟨x97, ZFd, ZF5, hF⟩ := ZcJ hF
   obtain ⟨r98, ZGW, hF⟩ := bind_some hF
   refine nn ?_
   refine Or.inl (Exists.intro 20 (Exists.intro [[], [], [], [], [], [], [], [], [1000, 7001, 1002], [], [], [], [], [], [], [], [], [1000, 7001, 1002], [5], [6]] (Exists.intro [([11, 12, 13, 14, 15, 16, 17, 18, 19, 20, 21, 22, 23, 24, 25, 26, 27, 28, 5, 6], [5, 6], []), ([11, 12, 13, 14, 15, 16, 17, 18, 19, 20, 21, 22, 23, 24, 25, 26, 27, 28, 5, 6], [5, 6], []), ([11, 12, 13, 14, 15, 16, 17, 18, 19, 20, 21, 22, 23, 24, 25, 26, 27, 28, 5, 6], [5, 6], []), ([11, 12, 14, 15, 16, 17, 18, 19, 20, 21, 22, 23, 24, 25, 26, 27, 28, 5, 6], [5, 6], []), ([11, 12, 15, 16, 17, 18, 19, 20, 21, 22, 23, 24, 25, 26, 27, 28, 5, 6], [5, 6], []), ([11, 16, 17, 18, 19, 20, 21, 22, 23, 24, 25, 26, 27, 28, 5, 6], [5, 6], []), ([11, 17, 18, 19, 20, 21, 22, 23, 24, 25, 26, 27, 28, 5, 6], [5, 6], []), ([11, 18, 19, 20, 21, 22, 23, 24, 25, 26, 27, 28, 5, 6], [5, 6], []), ([19, 20, 21, 22, 23, 24, 25, 26, 27, 28, 5, 6], [5, 6], [1000, 7001, 1002]), ([11, 12, 13, 14, 15, 16, 17, 18, 19, 20, 21, 22, 23, 24, 25, 26, 27, 28, 5, 6], [1000, 7001, 1002, 5, 6], []), ([11, 12, 13, 14, 15, 16, 17, 18, 19, 20, 21, 22, 23, 24, 25, 26, 27, 28, 5, 6], [1000, 7001, 1002, 5, 6], []), ([11, 12, 13, 14, 15, 16, 17, 18, 19, 20, 21, 22, 23, 24, 25, 26, 27, 28, 5, 6], [1000, 7001, 1002, 5, 6], []), ([11, 12, 13, 14, 15, 16, 17, 18, 19, 20, 21, 23, 24, 25, 26, 27, 28, 5, 6], [1000, 7001, 1002, 5, 6], []), ([11, 12, 13, 14, 15, 16, 17, 18, 19, 20, 21, 24, 25, 26, 27, 28, 5, 6], [1000, 7001, 1002, 5, 6], []), ([11, 12, 13, 14, 15, 16, 17, 18, 19, 20, 25, 26, 27, 28, 5, 6], [1000, 7001, 1002, 5, 6], []), ([11, 12, 13, 14, 15, 16, 17, 18, 19, 20, 26, 27, 28, 5, 6], [1000, 7001, 1002, 5, 6], []), ([11, 12, 13, 14, 15, 16, 17, 18, 19, 20, 27, 28, 5, 6], [1000, 7001, 1002, 5, 6], []), ([28, 5, 6], [5, 6], [1000, 7001, 1002]), ([11, 12, 13, 14, 15, 16, 17, 18, 19, 20, 21, 22, 23, 24, 25, 26, 27, 28, 5, 6], [1000, 7001, 1002, 1000, 7001, 1002, 6], [5]), ([11, 12, 13, 14, 15, 16, 17, 18, 19, 20, 21, 22, 23, 24, 25, 26, 27, 28, 5, 6], [1000, 7001, 1002, 1000, 7001, 1002, 5], [6])] (Exists.intro [11, 12, 13, 14, 15, 16, 17, 18, 19, 20, 21, 22, 23, 24, 25, 26, 27, 28, 5, 6] (And.intro (by decide +kernel) ?_)))))
   refine dp ?_
   refine dp ?_
   refine dp ?_
   refine dl ?_
   refine dp ?_
   refine da (Zpi ZFD ZE6) ?_
   refine dp ?_
   refine dr (ZbW (Zl.cells_eq x95) ZE6) ?_
   (refine st ?_; apply Exists.intro; apply Exists.intro; apply And.intro; (focus ((conv => whnf); refine Exists.intro [(1000, 1000), (7001, 1001), (1002, 1002)] ?_; (conv => whnf); refine And.intro rfl ?_; (conv => whnf); refine Zj.mono (Zj.weak (rn []) (ZgQ (Zu.mk ZD Zax) x95.e0 _ ZHt) rfl (WS.mk (tp (Zd (Zt (lc (lc (lc (lc Zo))))) Zc)) (Zf rfl (Ze2 (Zae (by first | exact rfl | simp only [List.length_set])) (cc Zh)) (Zf rfl (cc Zh) (Zf rfl (cc Zh) Zb))))) ?_; rintro d b ⟨rfl, rfl⟩; exact And.intro rfl (And.intro rfl rfl))); apply And.intro; (focus exact rfl); (conv => whnf))
   refine dp ?_
   refine dp ?_
   refine dp ?_
   refine dl ?_
   refine dp ?_
   refine da (Zpi ZFd ZF5) ?_
   refine dp ?_
   refine dr (ZbW (Zl.cells_eq x97) ZF5) ?_
   (refine st ?_; apply Exists.intro; apply Exists.intro; apply And.intro; (focus ((conv => whnf); refine Exists.intro [(1000, 1000), (7001, 1001), (1002, 1002)] ?_; (conv => whnf); refine And.intro rfl ?_; (conv => whnf); refine Zj.mono (Zj.weak (rn []) (ZgQ (Zu.mk ZD Zax) x97.e1 _ ZGW) rfl (WS.mk (tp (Zd (Zt (lc (lc (lc (lc Zo))))) Zc)) (Zf rfl (Ze2 (Zae (by first | exact rfl | simp only [List.length_set])) (cc Zh)) (Zf rfl (cc Zh) (Zf rfl (cc Zh) Zb))))) ?_; rintro d b ⟨rfl, rfl⟩; exact And.intro rfl (And.intro rfl rfl))); apply And.intro; (focus exact rfl); (conv => whnf))
   refine dp ?_
   refine dp ?_
   refine st ?_
   refine AWP.seq ?_
   obtain ⟨Zi8, ZDA, ZDm, ZzE, ZBW, hF⟩ := Zu7 hF
   refine ns ?_
   intro hlen99
   (try rw [List.length_map] at hlen99)
   (try rw [List.length_map])
   refine s3 ZDA ZDm ZzE ?_
   refine Exists.intro (Zi8.map Zl.cells) (Exists.intro Zi8.length (And.intro (ZBX ZBW) (And.intro (Zy0 ZzE ZBW) ?_)))
   refine st ?_
   refine AWP.seq ?_
   refine ns ?_
   refine AWP.seq ?_
   refine AWP.block ?_
   refine AWP.seq ?_
   refine AWP.cutN (fun T => ∃ r, WS r T ⟨[(0, .ptr 1000 0), (1, .c none (.rs 7003 Zi8.length)), (5, .ptr 5 0), (6, .ptr 6 0), (7, .c none (.v (.int .i64 0))), (34, .c none (.v (.bool (((r96.fOp == 1) && (r98.fOp == 1)) && (r96.fName.toList == r98.fName.toList)))))], [(5, [(none, .v (.int .i64 r96.fOp)), (none, .v (.string r96.fName)), (none, .sl (r96.fBound.fArgs.map Zk.cells)), (none, .sl (r96.fKids.map Za.cells))]), (6, [(none, .v (.int .i64 r98.fOp)), (none, .v (.string r98.fName)), (none, .sl (r98.fBound.fArgs.map Zk.cells)), (none, .sl (r98.fKids.map Za.cells))]), (1000, [(none, .rs 7001 ZD.length), (none, .rf 1002)]), (1002, [(none, .ob 109 (Zax.map (Zeb c_S Zcu)))]), (7001, [(none, .ob 90 (ZD.map Ze.cells))]), (7003, [(none, .ob 76 (Zi8.map Zl.cells))])]⟩) ?_ (fun T hw => ?_)
   ·refine ns ?_
    refine Zm true (fun ZsJ => ?_) (fun ZsJ => ?_)
    ·(conv => whnf)
     refine st ?_
     refine Zm true (fun Zy2 => ?_) (fun Zy2 => ?_)
     ·(conv => whnf)
      refine st ?_
      exact wx (WS.mk (tp (Zd (Zr (Zae (by first | exact rfl | simp only [List.length_set]))) (tp (tp (tc (Zd (Zr (web (And.intro ZsJ Zy2))) Zc)))))) (Zf rfl (cc (cc (cc (cc Zh)))) (Zf rfl (cc (cc (cc (cc Zh)))) (Zf rfl (Ze2 (Zae (by first | exact rfl | simp only [List.length_set])) (cc Zh)) (Zf rfl (cc Zh) (Zf rfl (cc Zh) (Zf rfl (cc Zh) Zb)))))))
     ·(conv => whnf)
      refine st ?_
      exact wx (WS.mk (tp (Zd (Zr (Zae (by first | exact rfl | simp only [List.length_set]))) (tp (tp (tc (Zd (Zr (web (And.intro ZsJ Zy2))) Zc)))))) (Zf rfl (cc (cc (cc (cc Zh)))) (Zf rfl (cc (cc (cc (cc Zh)))) (Zf rfl (Ze2 (Zae (by first | exact rfl | simp only [List.length_set])) (cc Zh)) (Zf rfl (cc Zh) (Zf rfl (cc Zh) (Zf rfl (cc Zh) Zb)))))))
    ·(conv => whnf)
     refine st ?_
     exact wx (WS.mk (tp (Zd (Zr (Zae (by first | exact rfl | simp only [List.length_set]))) (tp (tp (tc (Zd (Zr (web ZsJ)) Zc)))))) (Zf rfl (cc (cc (cc (cc Zh)))) (Zf rfl (cc (cc (cc (cc Zh)))) (Zf rfl (Ze2 (Zae (by first | exact rfl | simp only [List.length_set])) (cc Zh)) (Zf rfl (cc Zh) (Zf rfl (cc Zh) (Zf rfl (cc Zh) Zb)))))))
   obtain ⟨r0, hw⟩ := hw
   (conv => whnf)
   refine AWP.weak r0 hw ?_
   refine nw ?_
   refine Zi hF (fun ZEr hF => ?_) (fun ZEr hF => ?_)
   ·refine nw ?_
    refine AWP.weak (rn []) ?_ (Zcv 0 Zax ZD Zi8 _ hF)
    exact (WS.mk (tp (Zd (Zr (Zae (by first | exact rfl | simp only [List.length_set]))) (tc Zc))) (Zf rfl (Ze2 (Zae (by first | exact rfl | simp only [List.length_set])) (cc Zh)) (Zf rfl (cc Zh) (Zf rfl (cc Zh) (Zf rfl (cc Zh) Zb)))))
   ·refine AWP.seq ?_
    refine ns ?_
    refine nw ?_
    refine Zi hF (fun ZzQ hF => ?_) (fun ZzQ hF => ?_)
    ·obtain ⟨Zv2, ZEH, hF⟩ := bind_some hF
     refine ns ?_
     refine Exists.intro [] (Exists.intro [(1000, 1000), (7001, 7001), (1002, 1002)] (Exists.intro [] ?_))
     refine st ?_
     refine cm (Zj.weak (rn []) (ZiE (Zu.mk ZD Zax) r96.fName r98 _ ZEH) rfl (WS.mk (tp (tc (Zd (Zt (lc (lc (lc (lc Zo))))) Zc))) (Zf rfl (Ze2 (Zae (by first | exact rfl | simp only [List.length_set])) (cc Zh)) (Zf rfl (cc Zh) (Zf rfl (cc Zh) Zb))))) ?_
     refine st ?_
     refine AWP.weak (rn []) ?_ (Zcv Zv2.1 Zv2.2.fat Zv2.2.flist Zi8 _ hF)
     exact (WS.mk (tp (Zd (Zr (Zae (by first | exact rfl | simp only [List.length_set]))) (tc Zc))) (Zf rfl (Ze2 (Zae (by first | exact rfl | simp only [List.length_set])) (cc Zh)) (Zf rfl (cc Zh) (Zf rfl (cc Zh) (Zf rfl (cc Zh) Zb)))))
    ·refine AWP.seq ?_
     refine ns ?_
     refine nw ?_
     refine Zi hF (fun ZEq hF => ?_) (fun ZEq hF => ?_)
     ·obtain ⟨ZvO, ZGg, hF⟩ := bind_some hF
      refine ns ?_
      refine Exists.intro [] (Exists.intro [(1000, 1000), (7001, 7001), (1002, 1002)] (Exists.intro [] ?_))
      refine st ?_
      refine cm (Zj.weak (rn []) (ZiE (Zu.mk ZD Zax) r98.fName r96 _ ZGg) rfl (WS.mk (tp (tc (Zd (Zt (lc (lc (lc (lc Zo))))) Zc))) (Zf rfl (Ze2 (Zae (by first | exact rfl | simp only [List.length_set])) (cc Zh)) (Zf rfl (cc Zh) (Zf rfl (cc Zh) Zb))))) ?_
      refine st ?_
      refine AWP.weak (rn []) ?_ (Zcv ZvO.1 ZvO.2.fat ZvO.2.flist Zi8 _ hF)
      exact (WS.mk (tp (Zd (Zr (Zae (by first | exact rfl | simp only [List.length_set]))) (tc Zc))) (Zf rfl (Ze2 (Zae (by first | exact rfl | simp only [List.length_set])) (cc Zh)) (Zf rfl (cc Zh) (Zf rfl (cc Zh) (Zf rfl (cc Zh) Zb)))))
     ·refine AWP.seq ?_
      refine AWP.cutN (fun T => ∃ r, WS r T ⟨[(0, .ptr 1000 0), (1, .c none (.rs 7003 Zi8.length)), (5, .ptr 5 0), (6, .ptr 6 0), (7, .c none (.v (.int .i64 0))), (68, .c none (.v (.bool (((r96.fOp == 2) && (r98.fOp == 2)) && (r96.fName.toList == r98.fName.toList)))))], [(5, [(none, .v (.int .i64 r96.fOp)), (none, .v (.string r96.fName)), (none, .sl (r96.fBound.fArgs.map Zk.cells)), (none, .sl (r96.fKids.map Za.cells))]), (6, [(none, .v (.int .i64 r98.fOp)), (none, .v (.string r98.fName)), (none, .sl (r98.fBound.fArgs.map Zk.cells)), (none, .sl (r98.fKids.map Za.cells))]), (1000, [(none, .rs 7001 ZD.length), (none, .rf 1002)]), (1002, [(none, .ob 109 (Zax.map (Zeb c_S Zcu)))]), (7001, [(none, .ob 90 (ZD.map Ze.cells))]), (7003, [(none, .ob 76 (Zi8.map Zl.cells))])]⟩) ?_ (fun T hw => ?_)
      ·refine ns ?_
       refine Zm true (fun Zxu => ?_) (fun Zxu => ?_)
       ·(conv => whnf)
        refine st ?_
        refine Zm true (fun ZzA => ?_) (fun ZzA => ?_)
        ·(conv => whnf)
         refine st ?_
         exact wx (WS.mk (tp (Zd (Zr (Zae (by first | exact rfl | simp only [List.length_set]))) (tp (tp (tc (Zd (Zr (web (And.intro Zxu ZzA))) Zc)))))) (Zf rfl (cc (cc (cc (cc Zh)))) (Zf rfl (cc (cc (cc (cc Zh)))) (Zf rfl (Ze2 (Zae (by first | exact rfl | simp only [List.length_set])) (cc Zh)) (Zf rfl (cc Zh) (Zf rfl (cc Zh) (Zf rfl (cc Zh) Zb)))))))
        ·(conv => whnf)
         refine st ?_
         exact wx (WS.mk (tp (Zd (Zr (Zae (by first | exact rfl | simp only [List.length_set]))) (tp (tp (tc (Zd (Zr (web (And.intro Zxu ZzA))) Zc)))))) (Zf rfl (cc (cc (cc (cc Zh)))) (Zf rfl (cc (cc (cc (cc Zh)))) (Zf rfl (Ze2 (Zae (by first | exact rfl | simp only [List.length_set])) (cc Zh)) (Zf rfl (cc Zh) (Zf rfl (cc Zh) (Zf rfl (cc Zh) Zb)))))))
       ·(conv => whnf)
        refine st ?_
        exact wx (WS.mk (tp (Zd (Zr (Zae (by first | exact rfl | simp only [List.length_set]))) (tp (tp (tc (Zd (Zr (web Zxu)) Zc)))))) (Zf rfl (cc (cc (cc (cc Zh)))) (Zf rfl (cc (cc (cc (cc Zh)))) (Zf rfl (Ze2 (Zae (by first | exact rfl | simp only [List.length_set])) (cc Zh)) (Zf rfl (cc Zh) (Zf rfl (cc Zh) (Zf rfl (cc Zh) Zb)))))))
      obtain ⟨r0, hw⟩ := hw
      (conv => whnf)
      refine AWP.weak r0 hw ?_
      refine nw ?_
      refine Zi hF (fun ZGB hF => ?_) (fun ZGB hF => ?_)
      ·refine nw ?_
       refine AWP.weak (rn []) ?_ (Zcv 0 Zax ZD Zi8 _ hF)
       exact (WS.mk (tp (Zd (Zr (Zae (by first | exact rfl | simp only [List.length_set]))) (tc Zc))) (Zf rfl (Ze2 (Zae (by first | exact rfl | simp only [List.length_set])) (cc Zh)) (Zf rfl (cc Zh) (Zf rfl (cc Zh) (Zf rfl (cc Zh) Zb)))))
      ·refine AWP.seq ?_
       refine AWP.cutN (fun T => ∃ r, WS r T ⟨[(0, .ptr 1000 0), (1, .c none (.rs 7003 Zi8.length)), (5, .ptr 5 0), (6, .ptr 6 0), (7, .c none (.v (.int .i64 0))), (84, .c none (.v (.bool ((r96.fOp == 3) && (r98.fOp == 3)))))], [(5, [(none, .v (.int .i64 r96.fOp)), (none, .v (.string r96.fName)), (none, .sl (r96.fBound.fArgs.map Zk.cells)), (none, .sl (r96.fKids.map Za.cells))]), (6, [(none, .v (.int .i64 r98.fOp)), (none, .v (.string r98.fName)), (none, .sl (r98.fBound.fArgs.map Zk.cells)), (none, .sl (r98.fKids.map Za.cells))]), (1000, [(none, .rs 7001 ZD.length), (none, .rf 1002)]), (1002, [(none, .ob 109 (Zax.map (Zeb c_S Zcu)))]), (7001, [(none, .ob 90 (ZD.map Ze.cells))]), (7003, [(none, .ob 76 (Zi8.map Zl.cells))])]⟩) ?_ (fun T hw => ?_)
       ·refine ns ?_
        refine Zm true (fun ZAj => ?_) (fun ZAj => ?_)
        ·(conv => whnf)
         refine st ?_
         exact wx (WS.mk (tp (Zd (Zr (Zae (by first | exact rfl | simp only [List.length_set]))) (tp (tp (tc (Zd (Zr (web ZAj)) Zc)))))) (Zf rfl (cc (cc (cc (cc Zh)))) (Zf rfl (cc (cc (cc (cc Zh)))) (Zf rfl (Ze2 (Zae (by first | exact rfl | simp only [List.length_set])) (cc Zh)) (Zf rfl (cc Zh) (Zf rfl (cc Zh) (Zf rfl (cc Zh) Zb)))))))
        ·(conv => whnf)
         refine st ?_
         exact wx (WS.mk (tp (Zd (Zr (Zae (by first | exact rfl | simp only [List.length_set]))) (tp (tp (tc (Zd (Zr (web ZAj)) Zc)))))) (Zf rfl (cc (cc (cc (cc Zh)))) (Zf rfl (cc (cc (cc (cc Zh)))) (Zf rfl (Ze2 (Zae (by first | exact rfl | simp only [List.length_set])) (cc Zh)) (Zf rfl (cc Zh) (Zf rfl (cc Zh) (Zf rfl (cc Zh) Zb)))))))
       obtain ⟨r0, hw⟩ := hw
       (conv => whnf)
       refine AWP.weak r0 hw ?_
       refine nw ?_
       refine Zi hF (fun ZGt hF => ?_) (fun ZGt hF => ?_)
       ·obtain ⟨Zte, hx1360, ZEJ, hF⟩ := ZcJ hF
        obtain ⟨ZtB, hx1370, ZFB, hF⟩ := ZcJ hF
        obtain ⟨Zt2, hx1380, ZEL, hF⟩ := ZcJ hF
        obtain ⟨ZtG, hx1390, ZFy, hF⟩ := ZcJ hF
        obtain ⟨ZGi, hF⟩ := Zy hF
        refine nn ?_
        refine Or.inl (Exists.intro 20 (Exists.intro [[], [], [], [], [], [], [], [], [], [], [], [], [], [], [], [], [], [], [], []] (Exists.intro [([93, 94, 95, 96, 97, 98, 99, 100, 101, 102, 103, 104, 105, 106, 107, 108, 109, 110, 111, 112], [], []), ([93, 94, 95, 96, 97, 98, 99, 100, 101, 102, 103, 104, 105, 106, 107, 108, 109, 110, 111, 112], [], []), ([93, 95, 96, 97, 98, 99, 100, 101, 102, 103, 104, 105, 106, 107, 108, 109, 110, 111, 112], [], []), ([93, 96, 97, 98, 99, 100, 101, 102, 103, 104, 105, 106, 107, 108, 109, 110, 111, 112], [], []), ([93, 97, 98, 99, 100, 101, 102, 103, 104, 105, 106, 107, 108, 109, 110, 111, 112], [], []), ([93, 94, 95, 96, 97, 98, 99, 100, 101, 102, 103, 104, 105, 106, 107, 108, 109, 110, 111, 112], [], []), ([93, 94, 95, 96, 97, 99, 100, 101, 102, 103, 104, 105, 106, 107, 108, 109, 110, 111, 112], [], []), ([93, 94, 95, 96, 97, 100, 101, 102, 103, 104, 105, 106, 107, 108, 109, 110, 111, 112], [], []), ([93, 94, 95, 96, 97, 101, 102, 103, 104, 105, 106, 107, 108, 109, 110, 111, 112], [], []), ([93, 102, 103, 104, 105, 106, 107, 108, 109, 110, 111, 112], [], []), ([93, 94, 95, 96, 97, 98, 99, 100, 101, 102, 103, 104, 105, 106, 107, 108, 109, 110, 111, 112], [], []), ([93, 94, 95, 96, 97, 98, 99, 100, 101, 102, 104, 105, 106, 107, 108, 109, 110, 111, 112], [], []), ([93, 94, 95, 96, 97, 98, 99, 100, 101, 102, 105, 106, 107, 108, 109, 110, 111, 112], [], []), ([93, 94, 95, 96, 97, 98, 99, 100, 101, 102, 106, 107, 108, 109, 110, 111, 112], [], []), ([93, 94, 95, 96, 97, 98, 99, 100, 101, 102, 103, 104, 105, 106, 107, 108, 109, 110, 111, 112], [], []), ([93, 94, 95, 96, 97, 98, 99, 100, 101, 102, 103, 104, 105, 106, 108, 109, 110, 111, 112], [], []), ([93, 94, 95, 96, 97, 98, 99, 100, 101, 102, 103, 104, 105, 106, 109, 110, 111, 112], [], []), ([93, 94, 95, 96, 97, 98, 99, 100, 101, 102, 103, 104, 105, 106, 110, 111, 112], [], []), ([93, 94, 95, 96, 97, 98, 99, 100, 101, 102, 111, 112], [], []), ([93, 112], [], [])] (Exists.intro [93, 94, 95, 96, 97, 98, 99, 100, 101, 102, 103, 104, 105, 106, 107, 108, 109, 110, 111, 112] (And.intro (by decide +kernel) ?_)))))
        refine dp ?_
        refine dp ?_
        refine dp ?_
        refine dr (ZbW (Za.cells_eq Zte) ZEJ) ?_
        refine dp ?_
        refine dp ?_
        refine dp ?_
        refine dr (ZbW (Za.cells_eq ZtB) ZFB) ?_
        refine dp ?_
        refine dp ?_
        refine dp ?_
        refine dp ?_
        refine dr (ZbW (Za.cells_eq Zt2) ZEL) ?_
        refine dp ?_
        refine dp ?_
        refine dp ?_
        refine dr (ZbW (Za.cells_eq ZtG) ZFy) ?_
        refine dp ?_
        refine dp ?_
        refine de (Zbv (f := Zl.cells) (ZdA (Zl.cells_eq (Zl.mk Zte ZtB)) (lc (lc (lc (lc (lc (lc (lc (lc Zo))))))))) (Zbv (f := Zl.cells) (ZdA (Zl.cells_eq (Zl.mk Zt2 ZtG)) (lc (lc (lc (lc (lc (lc (lc (lc Zo))))))))) (ZY (f := Zl.cells)))) ?_
        refine sa (fun l => ZbS l (fun x => Zl.cells_len x)) ZGi ?_
        refine Exists.intro (([(Zl.mk Zte ZtB), (Zl.mk Zt2 ZtG)]).map Zl.cells) (Exists.intro ((Zi8 ++ ([(Zl.mk Zte ZtB), (Zl.mk Zt2 ZtG)])).map Zl.cells) (Exists.intro (Zi8 ++ ([(Zl.mk Zte ZtB), (Zl.mk Zt2 ZtG)])).length (And.intro (WE.refl _) (And.intro (Zra (by first | exact rfl | simp only [List.length_set])) (And.intro (Zrx (by first | exact rfl | simp only [List.length_set]) (by first | exact List.length_map _ | exact rfl)) ?_)))))
        refine st ?_
        refine AWP.weak (rn []) ?_ (Zcv 0 Zax ZD (Zi8 ++ ([(Zl.mk Zte ZtB), (Zl.mk Zt2 ZtG)])) _ hF)
        exact (WS.mk (tp (Zd (Zr (Zae (by first | exact rfl | simp only [List.length_set]))) (tc Zc))) (Zf rfl (Ze2 (Zae (by first | exact rfl | simp only [List.length_set])) (cc Zh)) (Zf rfl (cc Zh) (Zf rfl (cc Zh) (Zf rfl (cc Zh) Zb)))))
       ·refine ns ?_
        refine AWP.weak (rn []) ?_ (Zcv 22 Zax ZD Zi8 _ hF)
        exact (WS.mk (tp (Zd (Zr (Zae (by first | exact rfl | simp only [List.length_set]))) (tc Zc))) (Zf rfl (Ze2 (Zae (by first | exact rfl | simp only [List.length_set])) (cc Zh)) (Zf rfl (cc Zh) (Zf rfl (cc Zh) (Zf rfl (cc Zh) Zb)))))
  ·refine nw ?_
   refine AWP.seq ?_
   refine ns ?_
   obtain rfl := Zg hF
   refine ns ?_
   refine Exists.intro [(1000, 1000), (7001, 7001), (1002, 1002), (7003, 7003)] ?_
   refine st ?_
   exact wx (WS.mk (tc Zc) (Zf rfl (Ze2 (Zae (by first | exact rfl | simp only [List.length_set])) (cc Zh)) (Zf rfl (cc Zh) (Zf rfl (cc Zh) (Zf rfl (cc Zh) Zb)))))
 ·intro unify_solver_solve_l1' Zkp e_7 Zax ZD Zbn r hF
  unfold Zp.M
  refine AWP.seq ?_
  refine ns ?_
  refine nw ?_
  refine Zi hF (fun ZFo hF => ?_) (fun ZFo hF => ?_)
  ·refine AWP.seq ?_
   refine ns ?_
   refine AWP.seq ?_
   refine ns ?_
   refine AWP.thawB 1000 0 7001 45 rfl rfl ?_
   refine AWP.force ?_
   (conv => whnf)
   refine AWP.seq ?_
   refine ns ?_
   obtain rfl := Zg hF
   refine ns ?_
   refine Exists.intro [(1000, 1000), (7001, 7001), (1002, 1002), (7003, 7003)] ?_
   refine st ?_
   exact wx (WS.mk (tc Zc) (Zf rfl (Ze2 (Zae (by first | exact rfl | simp only [List.length_set])) (cc Zh)) (Zf rfl (cc Zh) (Zf rfl (cc Zh) (Zf rfl (cc Zh) Zb)))))
  ·refine nw ?_
   refine AWL.weak (rn []) ?_ (Zkp Zax ZD Zbn _ hF)
   exact (WS.mk (tp (Zd (Zr (Zae (by first | exact rfl | simp only [List.length_set]))) Zc)) (Zf rfl (Ze2 (Zae (by first | exact rfl | simp only [List.length_set])) (cc Zh)) (Zf rfl (cc Zh) (Zf rfl (cc Zh) (Zf rfl (cc Zh) Zb)))))
theorem Zkr : ∀ (Zax : (List (ByteArray × Int))) (ZD : (List Ze)) (Zbn : (List Zl)), ∀ r, ZB Zax ZD Zbn = some r → ZB.M Zax ZD Zbn r := Zgn.1
theorem unify_solver_solve_k2_ok : ∀ (e_7 : Int) (Zax : (List (ByteArray × Int))) (ZD : (List Ze)) (Zbn : (List Zl)), ∀ r, Zp e_7 Zax ZD Zbn = some r → Zp.M e_7 Zax ZD Zbn r := Zgn.2

def ZcN (s : Zu) (todo : (List Zl)) : Option (Int × Zu × (List Zl)) :=
 ZB s.fat s.flist todo
def ZcN.M (s : Zu) (todo : (List Zl)) (r : Int × Zu × (List Zl)) : Prop :=
 Zj Tryz.prog 32 [.ptr 1000 0, .c none (.rs 7003 todo.length)] [(1000, [(none, .rs 7001 s.flist.length), (none, .rf 1002)]), (1002, [(none, .ob 109 (s.fat.map (Zeb c_S Zcu)))]), (7001, [(none, .ob 90 (s.flist.map Ze.cells))]), (7003, [(none, .ob 76 (todo.map Zl.cells))])] (fun d b => d = .c none (.v (.int .i64 r.1)) ∧ b = [(1000, [(none, .rs 7001 r.2.1.flist.length), (none, .rf 1002)]), (1002, [(none, .ob 109 (r.2.1.fat.map (Zeb c_S Zcu)))]), (7001, [(none, .ob 90 (r.2.1.flist.map Ze.cells))]), (7003, [(none, .ob 76 (r.2.2.map Zl.cells))])])
theorem Zl6 (s : Zu) (todo : (List Zl)) (r : Int × Zu × (List Zl)) (hF : ZcN s todo = some r) : ZcN.M s todo r := by
 unfold ZcN at hF
 unfold ZcN.M
 refine en Tryz.func32 ?_
 refine AWP.seq ?_
 refine ns ?_
 refine AWP.seq ?_
 refine AWP.block ?_
 refine AWP.loop ?_
 refine AWL.weak (rn []) ?_ (Zkr s.fat s.flist todo _ hF)
 exact (WS.mk (tp (Zd (Zr (Zae (by first | exact rfl | simp only [List.length_set]))) Zc)) (Zf rfl (Ze2 (Zae (by first | exact rfl | simp only [List.length_set])) (cc Zh)) (Zf rfl (cc Zh) (Zf rfl (cc Zh) (Zf rfl (cc Zh) Zb)))))

def Zs (s_6 : (List Ze)) (e_7 : Int) (ZH : (List Zl)) : Option ((List Ze) × Int) :=
 if ((decide (((ZH.length : Nat) : Int) > 0)) && (e_7 == 0)) = true then
 (ixI ZH (IntKind.i64.wrap (((ZH.length : Nat) : Int) - 1))) >>= fun ZBr =>
 Zbi s_6 ZBr.e0 >>= fun Zhn =>
 (ixI ZH (IntKind.i64.wrap (((ZH.length : Nat) : Int) - 1))) >>= fun ZBi =>
 Zbi s_6 ZBi.e1 >>= fun Zhm =>
 (slL ZH ((0 : Nat) : Int) (IntKind.i64.wrap (((ZH.length : Nat) : Int) - 1))) >>= fun Zi9 =>
 if (((Zhn.fOp == 1) && (Zhm.fOp == 1)) && (Zhn.fName.toList == Zhm.fName.toList)) = true then
 Zs s_6 e_7 Zi9
 else
 if (Zhn.fOp == 1) = true then
 Za7 s_6 Zhn.fName Zhm >>= fun ZyD =>
 Zs ZyD.1 ZyD.2 Zi9
 else
 if (Zhm.fOp == 1) = true then
 Za7 s_6 Zhm.fName Zhn >>= fun Zz8 =>
 Zs Zz8.1 Zz8.2 Zi9
 else
 if (((Zhn.fOp == 2) && (Zhm.fOp == 2)) && (Zhn.fName.toList == Zhm.fName.toList)) = true then
 Zs s_6 e_7 Zi9
 else
 if ((Zhn.fOp == 3) && (Zhm.fOp == 3)) = true then
 (ixI Zhn.fKids 1) >>= fun ZtA =>
 (ixI Zhm.fKids 1) >>= fun Ztf =>
 (ixI Zhn.fKids 0) >>= fun Ztd =>
 (ixI Zhm.fKids 0) >>= fun Ztw =>
 Z4 ((Zi9.length + ([(Zl.mk ZtA Ztf), (Zl.mk Ztd Ztw)]).length) * 144 ≤ 140737488355328) >>= fun _ =>
 Zs s_6 e_7 (Zi9 ++ ([(Zl.mk ZtA Ztf), (Zl.mk Ztd Ztw)]))
 else
 Zs s_6 22 Zi9
 else
 if (e_7 != 0) = true then
 some (([] : List Ze), e_7)
 else
 some (s_6, 0)
 partial_fixpoint
def Zs.M (s_6 : (List Ze)) (e_7 : Int) (ZH : (List Zl)) (r : (List Ze) × Int) : Prop :=
 AWL Tryz.prog 162 (Code.sub (Zq Tryz.f16) [1, 1, 1, 1, 1, 0, 0, 0]) (Code.cont Tryz.prog 162 (Zq Tryz.f16) [1, 1, 1, 1, 1, 0, 0] (ZbV tab Tryz.f16.results (ZbX (.tup [.c (.sl (r.1.map Ze.cells)), .c (.v (.int .i64 r.2))]) []))) ⟨[(4, .c none (.rs 6004 ZH.length)), (6, .c none (.sl (s_6.map Ze.cells))), (7, .c none (.v (.int .i64 e_7)))], [(6004, [(none, .ob 76 (ZH.map Zl.cells))])]⟩
theorem ZmF (s_6 : (List Ze)) (e_7 : Int) (ZH : (List Zl)) : ∀ r, Zs s_6 e_7 ZH = some r → Zs.M s_6 e_7 ZH r := by
 refine Zs.partial_correctness (fun s_6 e_7 ZH r => Zs.M s_6 e_7 ZH r) ?_ s_6 e_7 ZH
 intro lazycref18_All_l2' Zh0 s_6 e_7 ZH r hF
 have Zdv := fun (s_6 : (List Ze)) (e_7 : Int) (ZH : (List Zl)) => Zh0 s_6 e_7 ZH
 clear Zh0
 unfold Zs.M
 refine AWL.step ?_
 refine AWP.seq ?_
 refine AWP.seq ?_
 refine AWP.cutN (fun T => ∃ r, WS r T ⟨[(4, .c none (.rs 6004 ZH.length)), (6, .c none (.sl (s_6.map Ze.cells))), (7, .c none (.v (.int .i64 e_7))), (48, .c none (.v (.bool ((decide (((ZH.length : Nat) : Int) > 0)) && (e_7 == 0)))))], [(6004, [(none, .ob 76 (ZH.map Zl.cells))])]⟩) ?_ (fun T hw => ?_)
 ·refine ns ?_
  intro hlen237
  (try rw [List.length_map] at hlen237)
  (try rw [List.length_map])
  refine st ?_
  refine Zm true (fun Zzd => ?_) (fun Zzd => ?_)
  ·(conv => whnf)
   refine st ?_
   exact wx (WS.mk (Zd (Zr (Zae (by first | exact rfl | simp only [List.length_set]))) (tc (tc (Zd (Zr (web Zzd)) Zc)))) (Zf rfl (cc Zh) Zb))
  ·(conv => whnf)
   refine st ?_
   exact wx (WS.mk (Zd (Zr (Zae (by first | exact rfl | simp only [List.length_set]))) (tc (tc (Zd (Zr (web Zzd)) Zc)))) (Zf rfl (cc Zh) Zb))
 obtain ⟨r0, hw⟩ := hw
 (conv => whnf)
 refine AWP.weak r0 hw ?_
 refine nw ?_
 refine Zi hF (fun ZEv hF => ?_) (fun ZEv hF => ?_)
 ·refine nw ?_
  refine AWP.block ?_
  refine AWP.seq ?_
  obtain ⟨ZBr, ZB6, ZBS, hF⟩ := ZcJ hF
  obtain ⟨Zhn, ZGI, hF⟩ := bind_some hF
  obtain ⟨ZBi, ZDQ, ZB1, hF⟩ := ZcJ hF
  obtain ⟨Zhm, ZFs, hF⟩ := bind_some hF
  refine nn ?_
  refine Or.inl (Exists.intro 20 (Exists.intro [[], [], [], [], [], [], [], [], [], [], [], [], [], [], [], [], [], [], [8], [9]] (Exists.intro [([49, 50, 51, 52, 53, 54, 55, 56, 57, 58, 59, 60, 61, 62, 63, 64, 65, 66, 8, 9], [8, 9], []), ([49, 50, 51, 52, 53, 54, 55, 56, 57, 58, 59, 60, 61, 62, 63, 64, 65, 66, 8, 9], [8, 9], []), ([49, 50, 51, 52, 53, 54, 55, 56, 57, 58, 59, 60, 61, 62, 63, 64, 65, 66, 8, 9], [8, 9], []), ([49, 50, 52, 53, 54, 55, 56, 57, 58, 59, 60, 61, 62, 63, 64, 65, 66, 8, 9], [8, 9], []), ([49, 50, 53, 54, 55, 56, 57, 58, 59, 60, 61, 62, 63, 64, 65, 66, 8, 9], [8, 9], []), ([49, 54, 55, 56, 57, 58, 59, 60, 61, 62, 63, 64, 65, 66, 8, 9], [8, 9], []), ([49, 55, 56, 57, 58, 59, 60, 61, 62, 63, 64, 65, 66, 8, 9], [8, 9], []), ([49, 56, 57, 58, 59, 60, 61, 62, 63, 64, 65, 66, 8, 9], [8, 9], []), ([57, 58, 59, 60, 61, 62, 63, 64, 65, 66, 8, 9], [8, 9], []), ([49, 50, 51, 52, 53, 54, 55, 56, 57, 58, 59, 60, 61, 62, 63, 64, 65, 66, 8, 9], [8, 9], []), ([49, 50, 51, 52, 53, 54, 55, 56, 57, 58, 59, 60, 61, 62, 63, 64, 65, 66, 8, 9], [8, 9], []), ([49, 50, 51, 52, 53, 54, 55, 56, 57, 58, 59, 60, 61, 62, 63, 64, 65, 66, 8, 9], [8, 9], []), ([49, 50, 51, 52, 53, 54, 55, 56, 57, 58, 59, 61, 62, 63, 64, 65, 66, 8, 9], [8, 9], []), ([49, 50, 51, 52, 53, 54, 55, 56, 57, 58, 59, 62, 63, 64, 65, 66, 8, 9], [8, 9], []), ([49, 50, 51, 52, 53, 54, 55, 56, 57, 58, 63, 64, 65, 66, 8, 9], [8, 9], []), ([49, 50, 51, 52, 53, 54, 55, 56, 57, 58, 64, 65, 66, 8, 9], [8, 9], []), ([49, 50, 51, 52, 53, 54, 55, 56, 57, 58, 65, 66, 8, 9], [8, 9], []), ([66, 8, 9], [8, 9], []), ([49, 50, 51, 52, 53, 54, 55, 56, 57, 58, 59, 60, 61, 62, 63, 64, 65, 66, 8, 9], [9], [8]), ([49, 50, 51, 52, 53, 54, 55, 56, 57, 58, 59, 60, 61, 62, 63, 64, 65, 66, 8, 9], [8], [9])] (Exists.intro [49, 50, 51, 52, 53, 54, 55, 56, 57, 58, 59, 60, 61, 62, 63, 64, 65, 66, 8, 9] (And.intro (by decide +kernel) ?_)))))
  refine dp ?_
  refine dp ?_
  refine dp ?_
  refine dl ?_
  refine dp ?_
  refine da (Zpi ZB6 ZBS) ?_
  refine dp ?_
  refine dr (ZbW (Zl.cells_eq ZBr) ZBS) ?_
  (refine st ?_; apply Exists.intro; apply Exists.intro; apply And.intro; (focus ((conv => whnf); refine Exists.intro [] ?_; (conv => whnf); refine And.intro rfl ?_; (conv => whnf); refine Zj.mono (Zj.weak (rn []) (ZhO s_6 ZBr.e0 _ ZGI) rfl (WS.mk (tc (Zd (Zt (lc (lc (lc (lc Zo))))) Zc)) Zb)) ?_; rintro d b ⟨rfl, rfl⟩; exact And.intro rfl (And.intro rfl rfl))); apply And.intro; (focus exact rfl); (conv => whnf))
  refine dp ?_
  refine dp ?_
  refine dp ?_
  refine dl ?_
  refine dp ?_
  refine da (Zpi ZDQ ZB1) ?_
  refine dp ?_
  refine dr (ZbW (Zl.cells_eq ZBi) ZB1) ?_
  (refine st ?_; apply Exists.intro; apply Exists.intro; apply And.intro; (focus ((conv => whnf); refine Exists.intro [] ?_; (conv => whnf); refine And.intro rfl ?_; (conv => whnf); refine Zj.mono (Zj.weak (rn []) (ZhO s_6 ZBi.e1 _ ZFs) rfl (WS.mk (tc (Zd (Zt (lc (lc (lc (lc Zo))))) Zc)) Zb)) ?_; rintro d b ⟨rfl, rfl⟩; exact And.intro rfl (And.intro rfl rfl))); apply And.intro; (focus exact rfl); (conv => whnf))
  refine dp ?_
  refine dp ?_
  refine st ?_
  refine AWP.seq ?_
  obtain ⟨Zi9, ZCh, ZCu, ZAd, ZBN, hF⟩ := Zu7 hF
  refine ns ?_
  intro hlen244
  (try rw [List.length_map] at hlen244)
  (try rw [List.length_map])
  refine s3 ZCh ZCu ZAd ?_
  refine Exists.intro (Zi9.map Zl.cells) (Exists.intro Zi9.length (And.intro (ZBX ZBN) (And.intro (Zy0 ZAd ZBN) ?_)))
  refine st ?_
  refine AWP.block ?_
  refine AWP.seq ?_
  refine AWP.cutN (fun T => ∃ r, WS r T ⟨[(4, .c none (.rs 6004 Zi9.length)), (6, .c none (.sl (s_6.map Ze.cells))), (7, .c none (.v (.int .i64 e_7))), (8, .ptr 8 0), (9, .ptr 9 0), (72, .c none (.v (.bool (((Zhn.fOp == 1) && (Zhm.fOp == 1)) && (Zhn.fName.toList == Zhm.fName.toList)))))], [(8, [(none, .v (.int .i64 Zhn.fOp)), (none, .v (.string Zhn.fName)), (none, .sl (Zhn.fBound.fArgs.map Zk.cells)), (none, .sl (Zhn.fKids.map Za.cells))]), (9, [(none, .v (.int .i64 Zhm.fOp)), (none, .v (.string Zhm.fName)), (none, .sl (Zhm.fBound.fArgs.map Zk.cells)), (none, .sl (Zhm.fKids.map Za.cells))]), (6004, [(none, .ob 76 (Zi9.map Zl.cells))])]⟩) ?_ (fun T hw => ?_)
  ·refine ns ?_
   refine Zm true (fun Zxa => ?_) (fun Zxa => ?_)
   ·(conv => whnf)
    refine st ?_
    refine Zm true (fun ZAN => ?_) (fun ZAN => ?_)
    ·(conv => whnf)
     refine st ?_
     exact wx (WS.mk (Zd (Zr (Zae (by first | exact rfl | simp only [List.length_set]))) (tc (tc (tp (tp (Zd (Zr (web (And.intro Zxa ZAN))) Zc)))))) (Zf rfl (cc (cc (cc (cc Zh)))) (Zf rfl (cc (cc (cc (cc Zh)))) (Zf rfl (cc Zh) Zb))))
    ·(conv => whnf)
     refine st ?_
     exact wx (WS.mk (Zd (Zr (Zae (by first | exact rfl | simp only [List.length_set]))) (tc (tc (tp (tp (Zd (Zr (web (And.intro Zxa ZAN))) Zc)))))) (Zf rfl (cc (cc (cc (cc Zh)))) (Zf rfl (cc (cc (cc (cc Zh)))) (Zf rfl (cc Zh) Zb))))
   ·(conv => whnf)
    refine st ?_
    exact wx (WS.mk (Zd (Zr (Zae (by first | exact rfl | simp only [List.length_set]))) (tc (tc (tp (tp (Zd (Zr (web Zxa)) Zc)))))) (Zf rfl (cc (cc (cc (cc Zh)))) (Zf rfl (cc (cc (cc (cc Zh)))) (Zf rfl (cc Zh) Zb))))
  obtain ⟨r0, hw⟩ := hw
  (conv => whnf)
  refine AWP.weak r0 hw ?_
  refine nw ?_
  refine Zi hF (fun ZEC hF => ?_) (fun ZEC hF => ?_)
  ·refine nw ?_
   refine AWL.weak (rn []) ?_ (Zdv s_6 e_7 Zi9 _ hF)
   exact (WS.mk (Zd (Zr (Zae (by first | exact rfl | simp only [List.length_set]))) (tc (tc Zc))) (Zf rfl (cc Zh) Zb))
  ·refine AWP.seq ?_
   refine ns ?_
   refine nw ?_
   refine Zi hF (fun ZFu hF => ?_) (fun ZFu hF => ?_)
   ·obtain ⟨ZyD, ZF3, hF⟩ := bind_some hF
    refine ns ?_
    refine e3 ?_
    refine st ?_
    refine cm (Zj.weak (rn []) (ZjQ s_6 Zhn.fName Zhm _ ZF3) rfl (WS.mk (tc (tc (Zd (Zt (lc (lc (lc (lc Zo))))) Zc))) Zb)) ?_
    refine st ?_
    refine AWL.weak (rn []) ?_ (Zdv ZyD.1 ZyD.2 Zi9 _ hF)
    exact (WS.mk (Zd (Zr (Zae (by first | exact rfl | simp only [List.length_set]))) (tc (tc Zc))) (Zf rfl (cc Zh) Zb))
   ·refine AWP.seq ?_
    refine ns ?_
    refine nw ?_
    refine Zi hF (fun ZE1 hF => ?_) (fun ZE1 hF => ?_)
    ·obtain ⟨Zz8, ZGa, hF⟩ := bind_some hF
     refine ns ?_
     refine e3 ?_
     refine st ?_
     refine cm (Zj.weak (rn []) (ZjQ s_6 Zhm.fName Zhn _ ZGa) rfl (WS.mk (tc (tc (Zd (Zt (lc (lc (lc (lc Zo))))) Zc))) Zb)) ?_
     refine st ?_
     refine AWL.weak (rn []) ?_ (Zdv Zz8.1 Zz8.2 Zi9 _ hF)
     exact (WS.mk (Zd (Zr (Zae (by first | exact rfl | simp only [List.length_set]))) (tc (tc Zc))) (Zf rfl (cc Zh) Zb))
    ·refine AWP.seq ?_
     refine AWP.cutN (fun T => ∃ r, WS r T ⟨[(4, .c none (.rs 6004 Zi9.length)), (6, .c none (.sl (s_6.map Ze.cells))), (7, .c none (.v (.int .i64 e_7))), (8, .ptr 8 0), (9, .ptr 9 0), (112, .c none (.v (.bool (((Zhn.fOp == 2) && (Zhm.fOp == 2)) && (Zhn.fName.toList == Zhm.fName.toList)))))], [(8, [(none, .v (.int .i64 Zhn.fOp)), (none, .v (.string Zhn.fName)), (none, .sl (Zhn.fBound.fArgs.map Zk.cells)), (none, .sl (Zhn.fKids.map Za.cells))]), (9, [(none, .v (.int .i64 Zhm.fOp)), (none, .v (.string Zhm.fName)), (none, .sl (Zhm.fBound.fArgs.map Zk.cells)), (none, .sl (Zhm.fKids.map Za.cells))]), (6004, [(none, .ob 76 (Zi9.map Zl.cells))])]⟩) ?_ (fun T hw => ?_)
     ·refine ns ?_
      refine Zm true (fun Zxk => ?_) (fun Zxk => ?_)
      ·(conv => whnf)
       refine st ?_
       refine Zm true (fun ZAR => ?_) (fun ZAR => ?_)
       ·(conv => whnf)
        refine st ?_
        exact wx (WS.mk (Zd (Zr (Zae (by first | exact rfl | simp only [List.length_set]))) (tc (tc (tp (tp (Zd (Zr (web (And.intro Zxk ZAR))) Zc)))))) (Zf rfl (cc (cc (cc (cc Zh)))) (Zf rfl (cc (cc (cc (cc Zh)))) (Zf rfl (cc Zh) Zb))))
       ·(conv => whnf)
        refine st ?_
        exact wx (WS.mk (Zd (Zr (Zae (by first | exact rfl | simp only [List.length_set]))) (tc (tc (tp (tp (Zd (Zr (web (And.intro Zxk ZAR))) Zc)))))) (Zf rfl (cc (cc (cc (cc Zh)))) (Zf rfl (cc (cc (cc (cc Zh)))) (Zf rfl (cc Zh) Zb))))
      ·(conv => whnf)
       refine st ?_
       exact wx (WS.mk (Zd (Zr (Zae (by first | exact rfl | simp only [List.length_set]))) (tc (tc (tp (tp (Zd (Zr (web Zxk)) Zc)))))) (Zf rfl (cc (cc (cc (cc Zh)))) (Zf rfl (cc (cc (cc (cc Zh)))) (Zf rfl (cc Zh) Zb))))
     obtain ⟨r0, hw⟩ := hw
     (conv => whnf)
     refine AWP.weak r0 hw ?_
     refine nw ?_
     refine Zi hF (fun ZEG hF => ?_) (fun ZEG hF => ?_)
     ·refine nw ?_
      refine AWL.weak (rn []) ?_ (Zdv s_6 e_7 Zi9 _ hF)
      exact (WS.mk (Zd (Zr (Zae (by first | exact rfl | simp only [List.length_set]))) (tc (tc Zc))) (Zf rfl (cc Zh) Zb))
     ·refine AWP.seq ?_
      refine AWP.cutN (fun T => ∃ r, WS r T ⟨[(4, .c none (.rs 6004 Zi9.length)), (6, .c none (.sl (s_6.map Ze.cells))), (7, .c none (.v (.int .i64 e_7))), (8, .ptr 8 0), (9, .ptr 9 0), (128, .c none (.v (.bool ((Zhn.fOp == 3) && (Zhm.fOp == 3)))))], [(8, [(none, .v (.int .i64 Zhn.fOp)), (none, .v (.string Zhn.fName)), (none, .sl (Zhn.fBound.fArgs.map Zk.cells)), (none, .sl (Zhn.fKids.map Za.cells))]), (9, [(none, .v (.int .i64 Zhm.fOp)), (none, .v (.string Zhm.fName)), (none, .sl (Zhm.fBound.fArgs.map Zk.cells)), (none, .sl (Zhm.fKids.map Za.cells))]), (6004, [(none, .ob 76 (Zi9.map Zl.cells))])]⟩) ?_ (fun T hw => ?_)
      ·refine ns ?_
       refine Zm true (fun ZyF => ?_) (fun ZyF => ?_)
       ·(conv => whnf)
        refine st ?_
        exact wx (WS.mk (Zd (Zr (Zae (by first | exact rfl | simp only [List.length_set]))) (tc (tc (tp (tp (Zd (Zr (web ZyF)) Zc)))))) (Zf rfl (cc (cc (cc (cc Zh)))) (Zf rfl (cc (cc (cc (cc Zh)))) (Zf rfl (cc Zh) Zb))))
       ·(conv => whnf)
        refine st ?_
        exact wx (WS.mk (Zd (Zr (Zae (by first | exact rfl | simp only [List.length_set]))) (tc (tc (tp (tp (Zd (Zr (web ZyF)) Zc)))))) (Zf rfl (cc (cc (cc (cc Zh)))) (Zf rfl (cc (cc (cc (cc Zh)))) (Zf rfl (cc Zh) Zb))))
      obtain ⟨r0, hw⟩ := hw
      (conv => whnf)
      refine AWP.weak r0 hw ?_
      refine nw ?_
      refine Zi hF (fun ZEs hF => ?_) (fun ZEs hF => ?_)
      ·obtain ⟨ZtA, hx2630, ZFc, hF⟩ := ZcJ hF
       obtain ⟨Ztf, hx2640, ZFw, hF⟩ := ZcJ hF
       obtain ⟨Ztd, hx2650, ZGu, hF⟩ := ZcJ hF
       obtain ⟨Ztw, hx2660, ZEM, hF⟩ := ZcJ hF
       obtain ⟨ZFL, hF⟩ := Zy hF
       refine nn ?_
       refine Or.inl (Exists.intro 20 (Exists.intro [[], [], [], [], [], [], [], [], [], [], [], [], [], [], [], [], [], [], [], []] (Exists.intro [([137, 138, 139, 140, 141, 142, 143, 144, 145, 146, 147, 148, 149, 150, 151, 152, 153, 154, 155, 156], [], []), ([137, 138, 139, 140, 141, 142, 143, 144, 145, 146, 147, 148, 149, 150, 151, 152, 153, 154, 155, 156], [], []), ([137, 139, 140, 141, 142, 143, 144, 145, 146, 147, 148, 149, 150, 151, 152, 153, 154, 155, 156], [], []), ([137, 140, 141, 142, 143, 144, 145, 146, 147, 148, 149, 150, 151, 152, 153, 154, 155, 156], [], []), ([137, 141, 142, 143, 144, 145, 146, 147, 148, 149, 150, 151, 152, 153, 154, 155, 156], [], []), ([137, 138, 139, 140, 141, 142, 143, 144, 145, 146, 147, 148, 149, 150, 151, 152, 153, 154, 155, 156], [], []), ([137, 138, 139, 140, 141, 143, 144, 145, 146, 147, 148, 149, 150, 151, 152, 153, 154, 155, 156], [], []), ([137, 138, 139, 140, 141, 144, 145, 146, 147, 148, 149, 150, 151, 152, 153, 154, 155, 156], [], []), ([137, 138, 139, 140, 141, 145, 146, 147, 148, 149, 150, 151, 152, 153, 154, 155, 156], [], []), ([137, 146, 147, 148, 149, 150, 151, 152, 153, 154, 155, 156], [], []), ([137, 138, 139, 140, 141, 142, 143, 144, 145, 146, 147, 148, 149, 150, 151, 152, 153, 154, 155, 156], [], []), ([137, 138, 139, 140, 141, 142, 143, 144, 145, 146, 148, 149, 150, 151, 152, 153, 154, 155, 156], [], []), ([137, 138, 139, 140, 141, 142, 143, 144, 145, 146, 149, 150, 151, 152, 153, 154, 155, 156], [], []), ([137, 138, 139, 140, 141, 142, 143, 144, 145, 146, 150, 151, 152, 153, 154, 155, 156], [], []), ([137, 138, 139, 140, 141, 142, 143, 144, 145, 146, 147, 148, 149, 150, 151, 152, 153, 154, 155, 156], [], []), ([137, 138, 139, 140, 141, 142, 143, 144, 145, 146, 147, 148, 149, 150, 152, 153, 154, 155, 156], [], []), ([137, 138, 139, 140, 141, 142, 143, 144, 145, 146, 147, 148, 149, 150, 153, 154, 155, 156], [], []), ([137, 138, 139, 140, 141, 142, 143, 144, 145, 146, 147, 148, 149, 150, 154, 155, 156], [], []), ([137, 138, 139, 140, 141, 142, 143, 144, 145, 146, 155, 156], [], []), ([137, 156], [], [])] (Exists.intro [137, 138, 139, 140, 141, 142, 143, 144, 145, 146, 147, 148, 149, 150, 151, 152, 153, 154, 155, 156] (And.intro (by decide +kernel) ?_)))))
       refine dp ?_
       refine dp ?_
       refine dp ?_
       refine dr (ZbW (Za.cells_eq ZtA) ZFc) ?_
       refine dp ?_
       refine dp ?_
       refine dp ?_
       refine dr (ZbW (Za.cells_eq Ztf) ZFw) ?_
       refine dp ?_
       refine dp ?_
       refine dp ?_
       refine dp ?_
       refine dr (ZbW (Za.cells_eq Ztd) ZGu) ?_
       refine dp ?_
       refine dp ?_
       refine dp ?_
       refine dr (ZbW (Za.cells_eq Ztw) ZEM) ?_
       refine dp ?_
       refine dp ?_
       refine de (Zbv (f := Zl.cells) (ZdA (Zl.cells_eq (Zl.mk ZtA Ztf)) (lc (lc (lc (lc (lc (lc (lc (lc Zo))))))))) (Zbv (f := Zl.cells) (ZdA (Zl.cells_eq (Zl.mk Ztd Ztw)) (lc (lc (lc (lc (lc (lc (lc (lc Zo))))))))) (ZY (f := Zl.cells)))) ?_
       refine sa (fun l => ZbS l (fun x => Zl.cells_len x)) ZFL ?_
       refine Exists.intro (([(Zl.mk ZtA Ztf), (Zl.mk Ztd Ztw)]).map Zl.cells) (Exists.intro ((Zi9 ++ ([(Zl.mk ZtA Ztf), (Zl.mk Ztd Ztw)])).map Zl.cells) (Exists.intro (Zi9 ++ ([(Zl.mk ZtA Ztf), (Zl.mk Ztd Ztw)])).length (And.intro (WE.refl _) (And.intro (Zra (by first | exact rfl | simp only [List.length_set])) (And.intro (Zrx (by first | exact rfl | simp only [List.length_set]) (by first | exact List.length_map _ | exact rfl)) ?_)))))
       refine st ?_
       refine AWL.weak (rn []) ?_ (Zdv s_6 e_7 (Zi9 ++ ([(Zl.mk ZtA Ztf), (Zl.mk Ztd Ztw)])) _ hF)
       exact (WS.mk (Zd (Zr (Zae (by first | exact rfl | simp only [List.length_set]))) (tc (tc Zc))) (Zf rfl (cc Zh) Zb))
      ·refine ns ?_
       refine AWL.weak (rn []) ?_ (Zdv s_6 22 Zi9 _ hF)
       exact (WS.mk (Zd (Zr (Zae (by first | exact rfl | simp only [List.length_set]))) (tc (tc Zc))) (Zf rfl (cc Zh) Zb))
 ·refine nw ?_
  refine AWP.seq ?_
  refine AWP.seq ?_
  refine ns ?_
  refine nw ?_
  refine Zi hF (fun ZF6 hF => ?_) (fun ZF6 hF => ?_)
  ·refine AWP.seq ?_
   refine ns ?_
   obtain rfl := Zg hF
   refine ns ?_
   refine Exists.intro [] ?_
   refine st ?_
   exact wx (WS.mk (Zd (Zc9 (ZcC WE.nil (ZcC (WE.refl _) Zc6))) Zc) Zb)
  ·refine nw ?_
   refine AWP.seq ?_
   refine ns ?_
   obtain rfl := Zg hF
   refine ns ?_
   refine Exists.intro [] ?_
   refine st ?_
   exact wx (WS.mk (Zd (Zc9 (ZcC (WE.refl _) (ZcC (WE.refl _) Zc6))) Zc) Zb)

def ZbP (pairs : (List Zl)) (i_5 : Int) (ZH : (List Zl)) : Option ((List Ze) × Int) :=
 if (decide (i_5 ≥ 0)) = true then
 (ixI pairs i_5) >>= fun x91 =>
 Zcd x91.e0 >>= fun r92 =>
 (if (!r92) = true then some true else (ixI pairs i_5) >>= fun x93 =>
 Zcd x93.e1 >>= fun r94 =>
 some (!r94)) >>= fun c95 =>
 if c95 = true then
 some (([] : List Ze), 1)
 else
 (ixI pairs i_5) >>= fun x98 =>
 Z4 ((ZH.length + ([x98]).length) * 144 ≤ 140737488355328) >>= fun _ =>
 ZbP pairs (IntKind.i64.wrap (i_5 - 1)) (ZH ++ ([x98]))
 else
 Zs ([] : List Ze) 0 ZH
 partial_fixpoint
def ZbP.M (pairs : (List Zl)) (i_5 : Int) (ZH : (List Zl)) (r : (List Ze) × Int) : Prop :=
 pairs.length ≤ maxLen → AWL Tryz.prog 162 (Code.sub (Zq Tryz.f16) [1, 1, 0, 1, 0, 0]) (Code.cont Tryz.prog 162 (Zq Tryz.f16) [1, 1, 0, 1, 0] (ZbV tab Tryz.f16.results (ZbX (.tup [.c (.sl (r.1.map Ze.cells)), .c (.v (.int .i64 r.2))]) []))) ⟨[(0, .c none (.sl (pairs.map Zl.cells))), (4, .c none (.rs 6004 ZH.length)), (5, .c none (.v (.int .i64 i_5)))], [(6004, [(none, .ob 76 (ZH.map Zl.cells))])]⟩
theorem ZmK (pairs : (List Zl)) (i_5 : Int) (ZH : (List Zl)) : ∀ r, ZbP pairs i_5 ZH = some r → ZbP.M pairs i_5 ZH r := by
 refine ZbP.partial_correctness pairs (fun i_5 ZH r => ZbP.M pairs i_5 ZH r) ?_ i_5 ZH
 intro lazycref18_All_l1' Zh5 i_5 ZH r hF
 have Znb := fun (_pairs : (List Zl)) (i_5 : Int) (ZH : (List Zl)) => Zh5 i_5 ZH
 clear Zh5
 unfold ZbP.M
 intro hlen50
 refine AWL.step ?_
 refine AWP.seq ?_
 refine AWP.seq ?_
 refine ns ?_
 refine nw ?_
 refine Zi hF (fun ZpG hF => ?_) (fun ZpG hF => ?_)
 ·refine nw ?_
  refine AWP.seq ?_
  refine AWP.block ?_
  refine AWP.seq ?_
  refine AWP.seq ?_
  obtain ⟨x91, ZEO, ZCS, hF⟩ := ZcJ hF
  obtain ⟨r92, ZvR, hF⟩ := bind_some hF
  obtain ⟨c95, Zky, hF⟩ := bind_some hF
  refine AWP.cutN (fun T => ∃ r, WS r T ⟨[(0, .c none (.sl (pairs.map Zl.cells))), (4, .c none (.rs 6004 ZH.length)), (5, .c none (.v (.int .i64 i_5))), (33, .c none (.v (.bool c95)))], [(6004, [(none, .ob 76 (ZH.map Zl.cells))])]⟩) ?_ (fun T hw => ?_)
  ·refine nn ?_
   refine sr (ZbW (f := Zl.cells) (Zl.cells_eq x91) ZCS) ?_
   refine st ?_
   refine e3 ?_
   refine st ?_
   refine cm (Zj.weak (rn []) (ZiF x91.e0 _ ZvR) rfl (WS.mk (Zd (Zt (lc (lc (lc (lc Zo))))) Zc) Zb)) ?_
   refine st ?_
   refine Zm false (fun Zps => ?_) (fun Zps => ?_)
   ·have Zky := ift Zps Zky
    (conv => whnf)
    obtain rfl := Zg Zky
    refine st ?_
    exact wx (WS.mk (tc (Zd (Zr (Zae (by first | exact rfl | simp only [List.length_set]))) (tc (Zd (Zr (web Zps)) Zc)))) (Zf rfl (cc Zh) Zb))
   ·have Zky := ife Zps Zky
    obtain ⟨x93, ZFN, ZCB, Zky⟩ := ZcJ Zky
    obtain ⟨r94, ZCH, Zky⟩ := bind_some Zky
    (conv => whnf)
    refine sr (ZbW (f := Zl.cells) (Zl.cells_eq x93) ZCB) ?_
    refine st ?_
    refine e3 ?_
    refine st ?_
    refine cm (Zj.weak (rn []) (ZiF x93.e1 _ ZCH) rfl (WS.mk (Zd (Zt (lc (lc (lc (lc Zo))))) Zc) Zb)) ?_
    refine st ?_
    obtain rfl := Zg Zky
    refine st ?_
    exact wx (WS.mk (tc (Zd (Zr (Zae (by first | exact rfl | simp only [List.length_set]))) (tc (Zd (Zr (web Zps)) Zc)))) (Zf rfl (cc Zh) Zb))
  obtain ⟨r0, hw⟩ := hw
  (conv => whnf)
  refine AWP.weak r0 hw ?_
  refine nw ?_
  refine Zi hF (fun ZDH hF => ?_) (fun ZDH hF => ?_)
  ·refine AWP.seq ?_
   refine ns ?_
   obtain rfl := Zg hF
   refine ns ?_
   refine Exists.intro [] ?_
   refine st ?_
   exact wx (WS.mk (Zd (Zc9 (ZcC WE.nil (ZcC (WE.refl _) Zc6))) Zc) Zb)
  ·refine nw ?_
   obtain ⟨x98, ZET, ZCz, hF⟩ := ZcJ hF
   obtain ⟨ZB8, hF⟩ := Zy hF
   refine nn ?_
   refine sr (ZbW (f := Zl.cells) (Zl.cells_eq x98) ZCz) ?_
   refine st ?_
   refine Exists.intro _ (And.intro (Zbv (f := Zl.cells) (ZdA (Zl.cells_eq x98) (lc (lc (lc (lc (lc (lc (lc (lc Zo))))))))) (ZY (f := Zl.cells))) ?_)
   refine sa (fun l => ZbS l (fun x => Zl.cells_len x)) ZB8 ?_
   refine Exists.intro (([x98]).map Zl.cells) (Exists.intro ((ZH ++ ([x98])).map Zl.cells) (Exists.intro (ZH ++ ([x98])).length (And.intro (WE.refl _) (And.intro (Zra (by first | exact rfl | simp only [List.length_set])) (And.intro (Zrx (by first | exact rfl | simp only [List.length_set]) (by first | exact List.length_map _ | exact rfl)) ?_)))))
   refine st ?_
   refine ns ?_
   refine AWL.weak (rn []) ?_ (Znb pairs (IntKind.i64.wrap (i_5 - 1)) (ZH ++ ([x98])) _ hF hlen50)
   exact (WS.mk (tc (Zd (Zr (Zae (by first | exact rfl | simp only [List.length_set]))) (tc Zc))) (Zf rfl (cc Zh) Zb))
 ·refine nw ?_
  refine AWP.seq ?_
  refine ns ?_
  refine Exists.intro _ (And.intro (ZY (f := Ze.cells)) ?_)
  refine st ?_
  refine AWP.seq ?_
  refine ns ?_
  refine AWP.seq ?_
  refine AWP.block ?_
  refine AWP.loop ?_
  refine AWL.weak (rn []) ?_ (ZmF ([] : List Ze) 0 ZH _ hF)
  exact (WS.mk (Zd (Zr (Zae (by first | exact rfl | simp only [List.length_set]))) (tc (tc Zc))) (Zf rfl (cc Zh) Zb))

def ZcL (pairs : (List Zl)) : Option ((List Ze) × Int) :=
 ZbP pairs (IntKind.i64.wrap (((pairs.length : Nat) : Int) - 1)) ([] : List Zl)
def ZcL.M (pairs : (List Zl)) (r : (List Ze) × Int) : Prop :=
 Zj Tryz.prog 16 [.c none (.sl (pairs.map Zl.cells))] [] (fun d b => d = .tup [.c (.sl (r.1.map Ze.cells)), .c (.v (.int .i64 r.2))] ∧ b = [])
theorem Zj7 (pairs : (List Zl)) (r : (List Ze) × Int) (hF : ZcL pairs = some r) : ZcL.M pairs r := by
 unfold ZcL at hF
 unfold ZcL.M
 refine en Tryz.func16 ?_
 refine AWP.seq ?_
 refine ns ?_
 refine AWP.seq ?_
 refine ns ?_
 refine Exists.intro _ (And.intro (ZY (f := Zl.cells)) ?_)
 refine st ?_
 refine AWP.thaw 4 6004 38 rfl ?_
 refine AWP.force ?_
 (conv => whnf)
 refine AWP.seq ?_
 refine AWP.seq ?_
 refine ns ?_
 intro hlen50
 (try rw [List.length_map] at hlen50)
 (try rw [List.length_map])
 refine st ?_
 refine AWP.block ?_
 refine AWP.loop ?_
 refine AWL.weak (rn []) ?_ (ZmK pairs (IntKind.i64.wrap (((pairs.length : Nat) : Int) - 1)) ([] : List Zl) _ hF hlen50)
 exact (WS.mk (tc (Zd (Zr (Zae (by first | exact rfl | simp only [List.length_set]))) (tc Zc))) (Zf rfl (cc Zh) Zb))

def ZcP (Zjr : (List Ze)) (l : (List Ze)) (x_8 : Nat) (ZbB : (List Ze)) : Option ((List Ze)) :=
 (match ZbB with
 | x13 :: ZrS =>
 Zcp x13.fType >>= fun r16 =>
 Z4 ((Zjr.length + ([(Ze.mk x13.fName r16)]).length) * 88 ≤ 140737488355328) >>= fun _ =>
 ZcP (Zjr ++ ([(Ze.mk x13.fName r16)])) l (x_8 + 1) ZrS
 | [] =>
 some Zjr)
 partial_fixpoint
def ZcP.M (Zjr : (List Ze)) (l : (List Ze)) (x_8 : Nat) (ZbB : (List Ze)) (r : (List Ze)) : Prop :=
 ∀ Zeh : List Ze, l = Zeh ++ ZbB → x_8 = Zeh.length → l.length ≤ maxLen → AWL Tryz.prog 23 (Code.sub (Zq Tryz.f33) [1, 1, 0, 1, 0, 0]) (Code.cont Tryz.prog 23 (Zq Tryz.f33) [1, 1, 0, 1, 0] (ZbV tab Tryz.f33.results (ZbX (.c (some (0, 45)) (.sl (r.map Ze.cells))) [(1000, [(none, .ob 90 (l.map Ze.cells))])]))) ⟨[(3, .c (some (3, 45)) (.sl (Zjr.map Ze.cells))), (6, .c none (.rs 1000 l.length)), (7, .c none (.v (.int .i64 ((l.length : Nat) : Int)))), (8, .c none (.v (.int .i64 ((x_8 : Nat) : Int))))], [(1000, [(none, .ob 90 (l.map Ze.cells))])]⟩
theorem Zos (Zjr : (List Ze)) (l : (List Ze)) (x_8 : Nat) (ZbB : (List Ze)) : ∀ r, ZcP Zjr l x_8 ZbB = some r → ZcP.M Zjr l x_8 ZbB r := by
 refine ZcP.partial_correctness l (fun Zjr x_8 ZbB r => ZcP.M Zjr l x_8 ZbB r) ?_ Zjr x_8 ZbB
 intro unify_fresh_l1' ZjG Zjr x_8 ZbB r hF
 have Zou := fun (Zjr : (List Ze)) (_l : (List Ze)) (x_8 : Nat) (ZbB : (List Ze)) => ZjG Zjr x_8 ZbB
 clear ZjG
 unfold ZcP.M
 intro Zeh ZjS ZjF hlen1
 refine AWL.step ?_
 refine AWP.seq ?_
 refine ns ?_
 refine AWP.seq ?_
 refine nw ?_
 refine ZN ZjS ZjF (fun x13 ZrS ZqZ ZxV ZyT => ?_) (fun ZqZ => ?_)
 ·subst ZqZ
  refine nw ?_
  refine AWP.seq ?_
  refine AWP.block ?_
  refine AWP.seq ?_
  refine ns ?_
  refine And.intro (ZtO ZxV) ?_
  refine st ?_
  refine sr (Zab (f := Ze.cells) (Ze.cells_eq x13) ZxV) ?_
  refine st ?_
  obtain ⟨r16, ZvF, hF⟩ := bind_some hF
  obtain ⟨ZEm, hF⟩ := Zy hF
  refine nn ?_
  refine Or.inl (Exists.intro 8 (Exists.intro [[], [], [], [], [], [], [], []] (Exists.intro [([12, 13, 14, 15, 16, 17, 18, 19], [], []), ([12, 13, 14, 15, 16, 17, 18, 19], [], []), ([12, 14, 15, 16, 17, 18, 19], [], []), ([12, 13, 14, 15, 16, 17, 18, 19], [], []), ([12, 13, 14, 16, 17, 18, 19], [], []), ([12, 13, 14, 17, 18, 19], [], []), ([12, 18, 19], [], []), ([12, 19], [], [])] (Exists.intro [12, 13, 14, 15, 16, 17, 18, 19] (And.intro (by decide +kernel) ?_)))))
  refine dp ?_
  refine dp ?_
  refine dp ?_
  refine dp ?_
  refine dp ?_
  (refine st ?_; apply Exists.intro; apply Exists.intro; apply And.intro; (focus ((conv => whnf); refine Exists.intro [] ?_; (conv => whnf); refine And.intro rfl ?_; (conv => whnf); refine Zj.mono (Zj.weak (rn []) (Zqi x13.fType _ ZvF) rfl (WS.mk (Zd (Zt (lc (lc (lc (lc Zo))))) Zc) Zb)) ?_; rintro d b ⟨rfl, rfl⟩; exact And.intro rfl (And.intro rfl rfl))); apply And.intro; (focus exact rfl); (conv => whnf))
  refine dp ?_
  refine de (Zbv (f := Ze.cells) (ZdA (Ze.cells_eq (Ze.mk x13.fName r16)) (lc (lc (lc (lc (lc Zo)))))) (ZY (f := Ze.cells))) ?_
  refine sa (fun l => ZbS l (fun x => Ze.cells_len x)) ZEm ?_
  refine Exists.intro _ (And.intro (WE.refl _) ?_)
  rw [← List.map_append]
  refine st ?_
  refine ns ?_
  refine AWL.weak (rn [(20, 3)]) ?_ (Zou (Zjr ++ ([(Ze.mk x13.fName r16)])) l (x_8 + 1) ZrS _ hF (Zeh ++ [x13]) (by rw [ZjS]; simp) (by rw [ZjF]; simp) hlen1)
  exact (WS.mk (Zd (Zak rfl (WE.refl _)) (Zd (Zr (Zae (by first | exact rfl | simp only [List.length_set]))) (tc (Zd (Zr (Zdf (ZV hlen1 ZyT))) Zc)))) (Zf rfl (cc Zh) Zb))
 ·subst ZqZ
  refine nw ?_
  refine AWP.seq ?_
  refine ns ?_
  obtain rfl := Zg hF
  refine ns ?_
  refine Exists.intro [(1000, 1000)] ?_
  refine st ?_
  exact Exists.intro (rn [(3, 0)]) (WS.mk (Zd (Zak rfl (WE.refl _)) Zc) (Zf rfl (cc Zh) Zb))

def ZcA (l : (List Ze)) : Option ((List Ze)) :=
 ZcP ([]) l 0 l
def ZcA.M (l : (List Ze)) (r : (List Ze)) : Prop :=
 Zj Tryz.prog 33 [.c none (.rs 1000 l.length)] [(1000, [(none, .ob 90 (l.map Ze.cells))])] (fun d b => d = .c (some (0, 45)) (.sl (r.map Ze.cells)) ∧ b = [(1000, [(none, .ob 90 (l.map Ze.cells))])])
theorem Zq6 (l : (List Ze)) (r : (List Ze)) (hF : ZcA l = some r) : ZcA.M l r := by
 unfold ZcA at hF
 unfold ZcA.M
 refine en Tryz.func33 ?_
 refine AWP.seq ?_
 refine ns ?_
 refine AWP.seq ?_
 refine ns ?_
 refine AWP.seq ?_
 refine AWP.seq ?_
 refine ns ?_
 intro hlen1
 (try rw [List.length_map] at hlen1)
 (try rw [List.length_map])
 refine st ?_
 refine AWP.block ?_
 refine AWP.loop ?_
 refine AWL.weak (rn []) ?_ (Zos ([]) l 0 l _ hF ([]) rfl rfl hlen1)
 exact (WS.mk (Zd Zju (Zd (Zr (Zae (by first | exact rfl | simp only [List.length_set]))) (tc (tc Zc)))) (Zf rfl (cc Zh) Zb))

def ZdF (pairs : (List Zl)) (i_5 : Int) (Zbq : (List Zl)) : Option ((List Ze) × Int) :=
 if (decide (i_5 ≥ 0)) = true then
 (ixI pairs i_5) >>= fun x91 =>
 ZdW x91.e0 >>= fun r92 =>
 (if (!r92) = true then some true else (ixI pairs i_5) >>= fun x93 =>
 ZdW x93.e1 >>= fun r94 =>
 some (!r94)) >>= fun c95 =>
 if c95 = true then
 some (([] : List Ze), 1)
 else
 (ixI pairs i_5) >>= fun x98 =>
 Z4 ((Zbq.length + ([x98]).length) * 144 ≤ 140737488355328) >>= fun _ =>
 ZdF pairs (IntKind.i64.wrap (i_5 - 1)) (Zbq ++ ([x98]))
 else
 ZcN (Zu.mk ([] : List Ze) ([] : List (ByteArray × Int))) Zbq >>= fun ZpK =>
 ZcA ZpK.2.1.flist >>= fun Zuj =>
 some (Zuj, ZpK.1)
 partial_fixpoint
def ZdF.M (pairs : (List Zl)) (i_5 : Int) (Zbq : (List Zl)) (r : (List Ze) × Int) : Prop :=
 pairs.length ≤ maxLen → AWL Tryz.prog 50 (Code.sub (Zq Tryz.f15) [1, 1, 0, 1, 0, 0]) (Code.cont Tryz.prog 50 (Zq Tryz.f15) [1, 1, 0, 1, 0] (ZbV tab Tryz.f15.results (ZbX (.tup [.c (.sl (r.1.map Ze.cells)), .c (.v (.int .i64 r.2))]) []))) ⟨[(0, .c none (.sl (pairs.map Zl.cells))), (4, .c none (.rs 6004 Zbq.length)), (5, .c none (.v (.int .i64 i_5)))], [(6004, [(none, .ob 76 (Zbq.map Zl.cells))])]⟩
theorem Zp7 (pairs : (List Zl)) (i_5 : Int) (Zbq : (List Zl)) : ∀ r, ZdF pairs i_5 Zbq = some r → ZdF.M pairs i_5 Zbq r := by
 refine ZdF.partial_correctness pairs (fun i_5 Zbq r => ZdF.M pairs i_5 Zbq r) ?_ i_5 Zbq
 intro unify_All_l1' Zk2 i_5 Zbq r hF
 have Zp5 := fun (_pairs : (List Zl)) (i_5 : Int) (Zbq : (List Zl)) => Zk2 i_5 Zbq
 clear Zk2
 unfold ZdF.M
 intro hlen50
 refine AWL.step ?_
 refine AWP.seq ?_
 refine AWP.seq ?_
 refine ns ?_
 refine nw ?_
 refine Zi hF (fun ZpG hF => ?_) (fun ZpG hF => ?_)
 ·refine nw ?_
  refine AWP.seq ?_
  refine AWP.block ?_
  refine AWP.seq ?_
  refine AWP.seq ?_
  obtain ⟨x91, ZEO, ZCS, hF⟩ := ZcJ hF
  obtain ⟨r92, ZvR, hF⟩ := bind_some hF
  obtain ⟨c95, Zky, hF⟩ := bind_some hF
  refine AWP.cutN (fun T => ∃ r, WS r T ⟨[(0, .c none (.sl (pairs.map Zl.cells))), (4, .c none (.rs 6004 Zbq.length)), (5, .c none (.v (.int .i64 i_5))), (30, .c none (.v (.bool c95)))], [(6004, [(none, .ob 76 (Zbq.map Zl.cells))])]⟩) ?_ (fun T hw => ?_)
  ·refine nn ?_
   refine sr (ZbW (f := Zl.cells) (Zl.cells_eq x91) ZCS) ?_
   refine st ?_
   refine e3 ?_
   refine st ?_
   refine cm (Zj.weak (rn []) (ZlY x91.e0 _ ZvR) rfl (WS.mk (Zd (Zt (lc (lc (lc (lc Zo))))) Zc) Zb)) ?_
   refine st ?_
   refine Zm false (fun Zps => ?_) (fun Zps => ?_)
   ·have Zky := ift Zps Zky
    (conv => whnf)
    obtain rfl := Zg Zky
    refine st ?_
    exact wx (WS.mk (tc (Zd (Zr (Zae (by first | exact rfl | simp only [List.length_set]))) (tc (Zd (Zr (web Zps)) Zc)))) (Zf rfl (cc Zh) Zb))
   ·have Zky := ife Zps Zky
    obtain ⟨x93, ZFN, ZCB, Zky⟩ := ZcJ Zky
    obtain ⟨r94, ZCH, Zky⟩ := bind_some Zky
    (conv => whnf)
    refine sr (ZbW (f := Zl.cells) (Zl.cells_eq x93) ZCB) ?_
    refine st ?_
    refine e3 ?_
    refine st ?_
    refine cm (Zj.weak (rn []) (ZlY x93.e1 _ ZCH) rfl (WS.mk (Zd (Zt (lc (lc (lc (lc Zo))))) Zc) Zb)) ?_
    refine st ?_
    obtain rfl := Zg Zky
    refine st ?_
    exact wx (WS.mk (tc (Zd (Zr (Zae (by first | exact rfl | simp only [List.length_set]))) (tc (Zd (Zr (web Zps)) Zc)))) (Zf rfl (cc Zh) Zb))
  obtain ⟨r0, hw⟩ := hw
  (conv => whnf)
  refine AWP.weak r0 hw ?_
  refine nw ?_
  refine Zi hF (fun ZDH hF => ?_) (fun ZDH hF => ?_)
  ·refine AWP.seq ?_
   refine ns ?_
   obtain rfl := Zg hF
   refine ns ?_
   refine Exists.intro [] ?_
   refine st ?_
   exact wx (WS.mk (Zd (Zc9 (ZcC WE.nil (ZcC (WE.refl _) Zc6))) Zc) Zb)
  ·refine nw ?_
   obtain ⟨x98, ZET, ZCz, hF⟩ := ZcJ hF
   obtain ⟨ZB8, hF⟩ := Zy hF
   refine nn ?_
   refine sr (ZbW (f := Zl.cells) (Zl.cells_eq x98) ZCz) ?_
   refine st ?_
   refine Exists.intro _ (And.intro (Zbv (f := Zl.cells) (ZdA (Zl.cells_eq x98) (lc (lc (lc (lc (lc (lc (lc (lc Zo))))))))) (ZY (f := Zl.cells))) ?_)
   refine sa (fun l => ZbS l (fun x => Zl.cells_len x)) ZB8 ?_
   refine Exists.intro (([x98]).map Zl.cells) (Exists.intro ((Zbq ++ ([x98])).map Zl.cells) (Exists.intro (Zbq ++ ([x98])).length (And.intro (WE.refl _) (And.intro (Zra (by first | exact rfl | simp only [List.length_set])) (And.intro (Zrx (by first | exact rfl | simp only [List.length_set]) (by first | exact List.length_map _ | exact rfl)) ?_)))))
   refine st ?_
   refine ns ?_
   refine AWL.weak (rn []) ?_ (Zp5 pairs (IntKind.i64.wrap (i_5 - 1)) (Zbq ++ ([x98])) _ hF hlen50)
   exact (WS.mk (tc (Zd (Zr (Zae (by first | exact rfl | simp only [List.length_set]))) (tc Zc))) (Zf rfl (cc Zh) Zb))
 ·refine nw ?_
  refine AWP.seq ?_
  refine ns ?_
  refine AWP.thawB 40 0 6540 45 rfl rfl ?_
  refine AWP.force ?_
  (conv => whnf)
  refine AWP.seq ?_
  obtain ⟨ZpK, ZER, hF⟩ := bind_some hF
  refine ns ?_
  refine Exists.intro [] (Exists.intro [(40, 1000), (6540, 7001), (38, 1002), (6004, 7003)] (Exists.intro [] ?_))
  refine st ?_
  refine cm (Zj.weak (rn []) (Zl6 (Zu.mk ([] : List Ze) ([] : List (ByteArray × Int))) Zbq _ ZER) rfl (WS.mk (tp (Zd (Zr (Zae (by first | exact rfl | simp only [List.length_set]))) Zc)) (Zf rfl (Ze2 (Zae (by first | exact rfl | simp only [List.length_set])) (cc Zh)) (Zf rfl (cc Zh) (Zf rfl (cc Zh) (Zf rfl (cc Zh) Zb)))))) ?_
  refine st ?_
  refine AWP.seq ?_
  obtain ⟨Zuj, ZGc, hF⟩ := bind_some hF
  refine ns ?_
  refine Exists.intro [] (Exists.intro [(6540, 1000)] (Exists.intro [] ?_))
  refine st ?_
  refine cm (Zj.weak (rn []) (Zq6 ZpK.2.1.flist _ ZGc) rfl (WS.mk (Zd (Zr (Zae (by first | exact rfl | simp only [List.length_set]))) Zc) (Zf rfl (cc Zh) Zb))) ?_
  refine st ?_
  obtain rfl := Zg hF
  refine ns ?_
  refine Exists.intro [] ?_
  refine st ?_
  exact wx (WS.mk (Zd (Zc9 (ZcC (WE.refl _) (ZcC (WE.refl _) Zc6))) Zc) Zb)

def Zfe (pairs : (List Zl)) : Option ((List Ze) × Int) :=
 ZdF pairs (IntKind.i64.wrap (((pairs.length : Nat) : Int) - 1)) ([] : List Zl)
def Zfe.M (pairs : (List Zl)) (r : (List Ze) × Int) : Prop :=
 Zj Tryz.prog 15 [.c none (.sl (pairs.map Zl.cells))] [] (fun d b => d = .tup [.c (.sl (r.1.map Ze.cells)), .c (.v (.int .i64 r.2))] ∧ b = [])
theorem ZoP (pairs : (List Zl)) (r : (List Ze) × Int) (hF : Zfe pairs = some r) : Zfe.M pairs r := by
 unfold Zfe at hF
 unfold Zfe.M
 refine en Tryz.func15 ?_
 refine AWP.seq ?_
 refine ns ?_
 refine AWP.seq ?_
 refine ns ?_
 refine AWP.thaw 4 6004 38 rfl ?_
 refine AWP.force ?_
 (conv => whnf)
 refine AWP.seq ?_
 refine AWP.seq ?_
 refine ns ?_
 intro hlen50
 (try rw [List.length_map] at hlen50)
 (try rw [List.length_map])
 refine st ?_
 refine AWP.block ?_
 refine AWP.loop ?_
 refine AWL.weak (rn []) ?_ (Zp7 pairs (IntKind.i64.wrap (((pairs.length : Nat) : Int) - 1)) ([] : List Zl) _ hF hlen50)
 exact (WS.mk (tc (Zd (Zr (Zae (by first | exact rfl | simp only [List.length_set]))) (tc Zc))) (Zf rfl (cc Zh) Zb))

def ZbI (a : Za) (b : Za) : Option ((List Ze) × Int) :=
 Zfe ([(Zl.mk a b)]) >>= fun r1 =>
 some (r1.1, r1.2)
def ZbI.M (a : Za) (b : Za) (r : (List Ze) × Int) : Prop :=
 Zj Tryz.prog 12 [.agg [.v (.int .i64 a.fOp), .v (.string a.fName), .sl (a.fBound.fArgs.map Zk.cells), .sl (a.fKids.map Za.cells)], .agg [.v (.int .i64 b.fOp), .v (.string b.fName), .sl (b.fBound.fArgs.map Zk.cells), .sl (b.fKids.map Za.cells)]] [] (fun d b => d = .tup [.c (.sl (r.1.map Ze.cells)), .c (.v (.int .i64 r.2))] ∧ b = [])
theorem ZfR (a : Za) (b : Za) (r : (List Ze) × Int) (hF : ZbI a b = some r) : ZbI.M a b r := by
 unfold ZbI at hF
 unfold ZbI.M
 refine en Tryz.func12 ?_
 refine AWP.seq ?_
 refine ns ?_
 refine AWP.seq ?_
 obtain ⟨r1, hr1, hF⟩ := bind_some hF
 refine ns ?_
 refine Exists.intro _ (And.intro (Zbv (f := Zl.cells) (ZdA (Zl.cells_eq (Zl.mk a b)) (lc (lc (lc (lc (lc (lc (lc (lc Zo))))))))) (ZY (f := Zl.cells))) ?_)
 refine st ?_
 refine Exists.intro [9] (Exists.intro [] (Exists.intro [] ?_))
 refine st ?_
 refine cm (Zj.weak (rn []) (ZoP ([(Zl.mk a b)]) _ hr1) rfl (WS.mk (tc Zc) Zb)) ?_
 refine st ?_
 obtain rfl := Zg hF
 refine ns ?_
 refine Exists.intro [] ?_
 refine st ?_
 exact wx (WS.mk (Zd (Zc9 (ZcC (WE.refl _) (ZcC (WE.refl _) Zc6))) Zc) Zb)

def ZdT (a : Za) (b : Za) : Option ((List Ze) × Int) :=
 ZcL ([(Zl.mk a b)]) >>= fun r1 =>
 some (r1.1, r1.2)
def ZdT.M (a : Za) (b : Za) (r : (List Ze) × Int) : Prop :=
 Zj Tryz.prog 13 [.agg [.v (.int .i64 a.fOp), .v (.string a.fName), .sl (a.fBound.fArgs.map Zk.cells), .sl (a.fKids.map Za.cells)], .agg [.v (.int .i64 b.fOp), .v (.string b.fName), .sl (b.fBound.fArgs.map Zk.cells), .sl (b.fKids.map Za.cells)]] [] (fun d b => d = .tup [.c (.sl (r.1.map Ze.cells)), .c (.v (.int .i64 r.2))] ∧ b = [])
theorem ZnB (a : Za) (b : Za) (r : (List Ze) × Int) (hF : ZdT a b = some r) : ZdT.M a b r := by
 unfold ZdT at hF
 unfold ZdT.M
 refine en Tryz.func13 ?_
 refine AWP.seq ?_
 refine ns ?_
 refine AWP.seq ?_
 obtain ⟨r1, hr1, hF⟩ := bind_some hF
 refine ns ?_
 refine Exists.intro _ (And.intro (Zbv (f := Zl.cells) (ZdA (Zl.cells_eq (Zl.mk a b)) (lc (lc (lc (lc (lc (lc (lc (lc Zo))))))))) (ZY (f := Zl.cells))) ?_)
 refine st ?_
 refine Exists.intro [9] (Exists.intro [] (Exists.intro [] ?_))
 refine st ?_
 refine cm (Zj.weak (rn []) (Zj7 ([(Zl.mk a b)]) _ hr1) rfl (WS.mk (tc Zc) Zb)) ?_
 refine st ?_
 obtain rfl := Zg hF
 refine ns ?_
 refine Exists.intro [] ?_
 refine st ?_
 exact wx (WS.mk (Zd (Zc9 (ZcC (WE.refl _) (ZcC (WE.refl _) Zc6))) Zc) Zb)

mutual
def Zam (a : Zk) (b : Zk) : Option (Bool) :=
 if (((a.fArgs.length : Nat) : Int) != ((b.fArgs.length : Nat) : Int)) = true then
 some false
 else
 ZaE 0 a b a.fArgs
 partial_fixpoint
def ZaE (i_5 : Nat) (a : Zk) (b : Zk) (Zaw : (List Zk)) : Option (Bool) :=
 (match Zaw with
 | x32 :: Zv9 =>
 (b.fArgs[i_5]?) >>= fun x37 =>
 Zam x32 x37 >>= fun r38 =>
 if (!r38) = true then
 some false
 else
 ZaE (i_5 + 1) a b Zv9
 | [] =>
 some true)
 partial_fixpoint
end
def Zam.M (a : Zk) (b : Zk) (r : Bool) : Prop :=
 Zj Tryz.prog 65 [.agg [.sl (a.fArgs.map Zk.cells)], .agg [.sl (b.fArgs.map Zk.cells)]] [] (fun d b => d = .c none (.v (.bool r)) ∧ b = [])
def ZaE.M (i_5 : Nat) (a : Zk) (b : Zk) (Zaw : (List Zk)) (r : Bool) : Prop :=
 ∀ Zdy : List Zk, a.fArgs = Zdy ++ Zaw → i_5 = Zdy.length → a.fArgs.length ≤ maxLen → b.fArgs.length ≤ maxLen → AWL Tryz.prog 32 (Code.sub (Zq Tryz.f65) [1, 1, 0, 1, 0, 0]) (Code.cont Tryz.prog 32 (Zq Tryz.f65) [1, 1, 0, 1, 0] (ZbV tab Tryz.f65.results (ZbX (.c none (.v (.bool r))) []))) ⟨[(2, .ptr 2 0), (3, .ptr 3 0), (5, .c none (.v (.int .i64 ((i_5 : Nat) : Int))))], [(2, [(none, .sl (a.fArgs.map Zk.cells))]), (3, [(none, .sl (b.fArgs.map Zk.cells))])]⟩
theorem Zg5 : (∀ (a : Zk) (b : Zk), ∀ r, Zam a b = some r → Zam.M a b r) ∧ (∀ (i_5 : Nat) (a : Zk) (b : Zk) (Zaw : (List Zk)), ∀ r, ZaE i_5 a b Zaw = some r → ZaE.M i_5 a b Zaw r) := by
 refine Zam.mutual_partial_correctness Zam.M ZaE.M ?_ ?_
 ·intro lazycref04_SameKind_l1' ZeL a b r hF
  unfold Zam.M
  refine en Tryz.func65 ?_
  refine AWP.seq ?_
  refine ns ?_
  refine AWP.seq ?_
  refine AWP.seq ?_
  refine ns ?_
  intro hlen4
  (try rw [List.length_map] at hlen4)
  (try rw [List.length_map])
  refine st ?_
  intro hlen5
  (try rw [List.length_map] at hlen5)
  (try rw [List.length_map])
  refine st ?_
  refine nw ?_
  refine Zi hF (fun hc6 hF => ?_) (fun hc6 hF => ?_)
  ·refine AWP.seq ?_
   refine ns ?_
   obtain rfl := Zg hF
   refine ns ?_
   refine Exists.intro [] ?_
   refine st ?_
   exact wx (WS.mk (tc Zc) Zb)
  ·refine nw ?_
   refine AWP.seq ?_
   refine AWP.seq ?_
   refine ns ?_
   refine AWP.block ?_
   refine AWP.loop ?_
   refine AWL.weak (rn []) ?_ (ZeL 0 a b a.fArgs _ hF ([]) rfl rfl hlen4 hlen5)
   exact (WS.mk (tp (tp (tc Zc))) (Zf rfl (cc Zh) (Zf rfl (cc Zh) Zb)))
 ·intro lazycref04_SameKind' lazycref04_SameKind_l1' ZlG ZeL i_5 a b Zaw r hF
  unfold ZaE.M
  intro Zdy ZhB ZhA hlen4 hlen5
  refine AWL.step ?_
  refine AWP.seq ?_
  refine AWP.seq ?_
  refine ns ?_
  intro hlen31
  (try rw [List.length_map] at hlen31)
  (try rw [List.length_map])
  refine st ?_
  refine nw ?_
  refine ZN ZhB ZhA (fun x32 Zv9 Zwp ZBp ZC4 => ?_) (fun Zwp => ?_)
  ·subst Zwp
   refine nw ?_
   refine AWP.seq ?_
   refine AWP.block ?_
   refine AWP.seq ?_
   obtain ⟨x37, ZHN, hF⟩ := bind_some hF
   obtain ⟨r38, Zzl, hF⟩ := bind_some hF
   refine nn ?_
   refine Or.inl (Exists.intro 10 (Exists.intro [[], [], [], [], [], [], [], [], [], []] (Exists.intro [([20, 21, 22, 23, 24, 25, 26, 27, 28, 29], [], []), ([21, 22, 23, 24, 25, 26, 27, 28, 29], [], []), ([20, 21, 22, 23, 24, 25, 26, 27, 28, 29], [], []), ([23, 24, 25, 26, 27, 28, 29], [], []), ([24, 25, 26, 27, 28, 29], [], []), ([20, 21, 22, 23, 24, 25, 26, 27, 28, 29], [], []), ([20, 21, 22, 23, 24, 26, 27, 28, 29], [], []), ([20, 21, 22, 23, 24, 25, 26, 27, 28, 29], [], []), ([20, 21, 22, 23, 24, 28, 29], [], []), ([20, 21, 22, 23, 24, 29], [], [])] (Exists.intro [20, 21, 22, 23, 24, 25, 26, 27, 28, 29] (And.intro (by decide +kernel) ?_)))))
   refine dp ?_
   refine dp ?_
   refine dp ?_
   refine dr (Zab (Zk.cells_eq x32) ZBp) ?_
   refine dp ?_
   refine dp ?_
   refine dp ?_
   refine dp ?_
   refine dr (Zab (Zk.cells_eq x37) ZHN) ?_
   refine dp ?_
   refine st ?_
   refine e3 ?_
   refine st ?_
   refine cm (Zj.weak (rn []) (ZlG x32 x37 _ Zzl) rfl (WS.mk (Zd (Zt (lc Zo)) (Zd (Zt (lc Zo)) Zc)) Zb)) ?_
   refine st ?_
   refine nw ?_
   refine Zi hF (fun ZhW hF => ?_) (fun ZhW hF => ?_)
   ·refine AWP.seq ?_
    refine ns ?_
    obtain rfl := Zg hF
    refine ns ?_
    refine Exists.intro [] ?_
    refine st ?_
    exact wx (WS.mk (tc Zc) Zb)
   ·refine nw ?_
    refine ns ?_
    refine AWL.weak (rn []) ?_ (ZeL (i_5 + 1) a b Zv9 _ hF (Zdy ++ [x32]) (by rw [ZhB]; simp) (by rw [ZhA]; simp) hlen31 hlen5)
    exact (WS.mk (tp (tp (Zd (Zr (Zdf (ZV hlen31 ZC4))) Zc))) (Zf rfl (cc Zh) (Zf rfl (cc Zh) Zb)))
  ·subst Zwp
   refine nw ?_
   refine AWP.seq ?_
   refine ns ?_
   obtain rfl := Zg hF
   refine ns ?_
   refine Exists.intro [] ?_
   refine st ?_
   exact wx (WS.mk (tc Zc) Zb)
theorem Zle : ∀ (a : Zk) (b : Zk), ∀ r, Zam a b = some r → Zam.M a b r := Zg5.1
theorem lazycref04_SameKind_l1_ok : ∀ (i_5 : Nat) (a : Zk) (b : Zk) (Zaw : (List Zk)), ∀ r, ZaE i_5 a b Zaw = some r → ZaE.M i_5 a b Zaw r := Zg5.2

def Zck (l : (List ByteArray)) (s : ByteArray) (i_5 : Int) : Option (Int) :=
 if (decide (i_5 ≥ 0)) = true then
 (ixI l i_5) >>= fun x12 =>
 if (x12.toList == s.toList) = true then
 some i_5
 else
 Zck l s (IntKind.i64.wrap (i_5 - 1))
 else
 some (-1)
 partial_fixpoint
def Zck.M (l : (List ByteArray)) (s : ByteArray) (i_5 : Int) (r : Int) : Prop :=
 l.length ≤ maxLen → AWL Tryz.prog 20 (Code.sub (Zq Tryz.f66) [1, 0, 1, 0, 0]) (Code.cont Tryz.prog 20 (Zq Tryz.f66) [1, 0, 1, 0] (ZbV tab Tryz.f66.results (ZbX (.c none (.v (.int .i64 r))) []))) ⟨[(0, .c none (.sl (l.map c_S))), (1, .c none (.v (.string s))), (5, .c none (.v (.int .i64 i_5)))], []⟩
theorem Zmb (l : (List ByteArray)) (s : ByteArray) (i_5 : Int) : ∀ r, Zck l s i_5 = some r → Zck.M l s i_5 r := by
 refine Zck.partial_correctness l s (fun i_5 r => Zck.M l s i_5 r) ?_ i_5
 intro lazycref04_last_l1' ZhS i_5 r hF
 have Zl1 := fun (_l : (List ByteArray)) (_s : ByteArray) (i_5 : Int) => ZhS i_5
 clear ZhS
 unfold Zck.M
 intro hlen1
 refine AWL.step ?_
 refine AWP.seq ?_
 refine AWP.seq ?_
 refine ns ?_
 refine nw ?_
 refine Zi hF (fun ZcO hF => ?_) (fun ZcO hF => ?_)
 ·refine nw ?_
  refine AWP.seq ?_
  refine AWP.block ?_
  refine AWP.seq ?_
  obtain ⟨x12, hx120, ZHA, hF⟩ := ZcJ hF
  refine nn ?_
  refine sr (ZbW (f := c_S) rfl ZHA) ?_
  refine st ?_
  refine nw ?_
  refine Zi hF (fun ZbD hF => ?_) (fun ZbD hF => ?_)
  ·refine AWP.seq ?_
   refine ns ?_
   obtain rfl := Zg hF
   refine ns ?_
   refine Exists.intro [] ?_
   refine st ?_
   exact wx (WS.mk (tc Zc) Zb)
  ·refine nw ?_
   refine ns ?_
   refine AWL.weak (rn []) ?_ (Zl1 l s (IntKind.i64.wrap (i_5 - 1)) _ hF hlen1)
   exact (WS.mk (tc (tc (tc Zc))) Zb)
 ·refine nw ?_
  refine AWP.seq ?_
  refine ns ?_
  obtain rfl := Zg hF
  refine ns ?_
  refine Exists.intro [] ?_
  refine st ?_
  exact wx (WS.mk (tc Zc) Zb)

def Zcs (l : (List ByteArray)) (s : ByteArray) : Option (Int) :=
 Zck l s (IntKind.i64.wrap (((l.length : Nat) : Int) - 1))
def Zcs.M (l : (List ByteArray)) (s : ByteArray) (r : Int) : Prop :=
 Zj Tryz.prog 66 [.c none (.sl (l.map c_S)), .c none (.v (.string s))] [] (fun d b => d = .c none (.v (.int .i64 r)) ∧ b = [])
theorem Zjz (l : (List ByteArray)) (s : ByteArray) (r : Int) (hF : Zcs l s = some r) : Zcs.M l s r := by
 unfold Zcs at hF
 unfold Zcs.M
 refine en Tryz.func66 ?_
 refine AWP.seq ?_
 refine ns ?_
 refine AWP.seq ?_
 refine AWP.seq ?_
 refine ns ?_
 intro hlen1
 (try rw [List.length_map] at hlen1)
 (try rw [List.length_map])
 refine st ?_
 refine AWP.block ?_
 refine AWP.loop ?_
 refine AWL.weak (rn []) ?_ (Zmb l s (IntKind.i64.wrap (((l.length : Nat) : Int) - 1)) _ hF hlen1)
 exact (WS.mk (tc (tc (tc Zc))) Zb)

mutual
def ZaS (a : Za) (b : Za) (x : (List ByteArray)) (y : (List ByteArray)) : Option (Bool) :=
 (if ((a.fOp != b.fOp) || (((a.fKids.length : Nat) : Int) != ((b.fKids.length : Nat) : Int))) = true then some true else Zam a.fBound b.fBound >>= fun r8 =>
 some (!r8)) >>= fun c9 =>
 if c9 = true then
 some false
 else
 if (a.fOp == 1) = true then
 Zcs x a.fName >>= fun r60 =>
 Zcs y b.fName >>= fun r61 =>
 some ((r60 == r61) && ((decide (r60 ≥ 0)) || (a.fName.toList == b.fName.toList)))
 else
 if (a.fOp == 4) = true then
 Z4 ((0 + x.length) * 16 ≤ 140737488355328) >>= fun _ =>
 Z4 ((x.length + ([a.fName]).length) * 16 ≤ 140737488355328) >>= fun _ =>
 Z4 ((0 + y.length) * 16 ≤ 140737488355328) >>= fun _ =>
 Z4 ((y.length + ([b.fName]).length) * 16 ≤ 140737488355328) >>= fun _ =>
 ZaH (x ++ ([a.fName])) (y ++ ([b.fName])) a b
 else
 if (!(a.fName.toList == b.fName.toList)) = true then
 some false
 else
 ZaH x y a b
 partial_fixpoint
def ZaH (x_2 : (List ByteArray)) (y_3 : (List ByteArray)) (a : Za) (b : Za) : Option (Bool) :=
 Z6 x_2 y_3 0 a b a.fKids
 partial_fixpoint
def Z6 (x_2 : (List ByteArray)) (y_3 : (List ByteArray)) (Zge : Nat) (a : Za) (b : Za) (ZcG : (List Za)) : Option (Bool) :=
 (match ZcG with
 | x49 :: ZDP =>
 (b.fKids[Zge]?) >>= fun x54 =>
 ZaS x49 x54 x_2 y_3 >>= fun r55 =>
 if (!r55) = true then
 some false
 else
 Z6 x_2 y_3 (Zge + 1) a b ZDP
 | [] =>
 some true)
 partial_fixpoint
end
def ZaS.M (a : Za) (b : Za) (x : (List ByteArray)) (y : (List ByteArray)) (r : Bool) : Prop :=
 Zj Tryz.prog 40 [.agg [.v (.int .i64 a.fOp), .v (.string a.fName), .sl (a.fBound.fArgs.map Zk.cells), .sl (a.fKids.map Za.cells)], .agg [.v (.int .i64 b.fOp), .v (.string b.fName), .sl (b.fBound.fArgs.map Zk.cells), .sl (b.fKids.map Za.cells)], .c none (.sl (x.map c_S)), .c none (.sl (y.map c_S))] [] (fun d b => d = .c none (.v (.bool r)) ∧ b = [])
def ZaH.M (x_2 : (List ByteArray)) (y_3 : (List ByteArray)) (a : Za) (b : Za) (r : Bool) : Prop :=
 AWP Tryz.prog 108 (Code.sub (Zq Tryz.f40) [1, 1, 1]) (Code.cont Tryz.prog 108 (Zq Tryz.f40) [1, 1, 1] (ZbV tab Tryz.f40.results (ZbX (.c none (.v (.bool r))) []))) ⟨[(2, .c none (.sl (x_2.map c_S))), (3, .c none (.sl (y_3.map c_S))), (4, .ptr 4 0), (5, .ptr 5 0)], [(4, [(none, .v (.int .i64 a.fOp)), (none, .v (.string a.fName)), (none, .sl (a.fBound.fArgs.map Zk.cells)), (none, .sl (a.fKids.map Za.cells))]), (5, [(none, .v (.int .i64 b.fOp)), (none, .v (.string b.fName)), (none, .sl (b.fBound.fArgs.map Zk.cells)), (none, .sl (b.fKids.map Za.cells))])]⟩
def Z6.M (x_2 : (List ByteArray)) (y_3 : (List ByteArray)) (Zge : Nat) (a : Za) (b : Za) (ZcG : (List Za)) (r : Bool) : Prop :=
 ∀ Zhu : List Za, a.fKids = Zhu ++ ZcG → Zge = Zhu.length → AWL Tryz.prog 108 (Code.sub (Zq Tryz.f40) [1, 1, 1, 0, 1, 0, 0]) (Code.cont Tryz.prog 108 (Zq Tryz.f40) [1, 1, 1, 0, 1, 0] (ZbV tab Tryz.f40.results (ZbX (.c none (.v (.bool r))) []))) ⟨[(2, .c none (.sl (x_2.map c_S))), (3, .c none (.sl (y_3.map c_S))), (4, .ptr 4 0), (5, .ptr 5 0), (13, .c none (.v (.int .i64 ((Zge : Nat) : Int))))], [(4, [(none, .v (.int .i64 a.fOp)), (none, .v (.string a.fName)), (none, .sl (a.fBound.fArgs.map Zk.cells)), (none, .sl (a.fKids.map Za.cells))]), (5, [(none, .v (.int .i64 b.fOp)), (none, .v (.string b.fName)), (none, .sl (b.fBound.fArgs.map Zk.cells)), (none, .sl (b.fKids.map Za.cells))])]⟩
theorem Zf3 : (∀ (a : Za) (b : Za) (x : (List ByteArray)) (y : (List ByteArray)), ∀ r, ZaS a b x y = some r → ZaS.M a b x y r) ∧ (∀ (x_2 : (List ByteArray)) (y_3 : (List ByteArray)) (a : Za) (b : Za), ∀ r, ZaH x_2 y_3 a b = some r → ZaH.M x_2 y_3 a b r) ∧ (∀ (x_2 : (List ByteArray)) (y_3 : (List ByteArray)) (Zge : Nat) (a : Za) (b : Za) (ZcG : (List Za)), ∀ r, Z6 x_2 y_3 Zge a b ZcG = some r → Z6.M x_2 y_3 Zge a b ZcG r) := by
 refine ZaS.mutual_partial_correctness ZaS.M ZaH.M Z6.M ?_ ?_ ?_
 ·intro lazycref04_Alike_k1' ZhM a b x y r hF
  unfold ZaS.M
  refine en Tryz.func40 ?_
  refine AWP.seq ?_
  refine ns ?_
  refine AWP.seq ?_
  refine AWP.seq ?_
  obtain ⟨c9, hc9, hF⟩ := bind_some hF
  refine AWP.cutN (fun T => ∃ r, WS r T ⟨[(2, .c none (.sl (x.map c_S))), (3, .c none (.sl (y.map c_S))), (4, .ptr 4 0), (5, .ptr 5 0), (35, .c none (.v (.bool c9)))], [(4, [(none, .v (.int .i64 a.fOp)), (none, .v (.string a.fName)), (none, .sl (a.fBound.fArgs.map Zk.cells)), (none, .sl (a.fKids.map Za.cells))]), (5, [(none, .v (.int .i64 b.fOp)), (none, .v (.string b.fName)), (none, .sl (b.fBound.fArgs.map Zk.cells)), (none, .sl (b.fKids.map Za.cells))])]⟩) ?_ (fun T hw => ?_)
  ·refine ns ?_
   refine Zm false (fun Zdr => ?_) (fun Zdr => ?_)
   ·(conv => whnf)
    have hc9 := ift Zdr hc9
    obtain rfl := Zg hc9
    refine st ?_
    exact wx (WS.mk (tc (tc (tp (tp (Zd (Zr (web Zdr)) Zc))))) (Zf rfl (cc (cc (cc (cc Zh)))) (Zf rfl (cc (cc (cc (cc Zh)))) Zb)))
   ·(conv => whnf)
    refine st ?_
    intro hlen6
    (try rw [List.length_map] at hlen6)
    (try rw [List.length_map])
    refine st ?_
    intro hlen7
    (try rw [List.length_map] at hlen7)
    (try rw [List.length_map])
    refine st ?_
    refine Zm false (fun ZcO => ?_) (fun ZcO => ?_)
    ·have hc9 := ift (And.intro Zdr ZcO) hc9
     (conv => whnf)
     obtain rfl := Zg hc9
     refine st ?_
     exact wx (WS.mk (tc (tc (tp (tp (Zd (Zr (web (And.intro Zdr ZcO))) Zc))))) (Zf rfl (cc (cc (cc (cc Zh)))) (Zf rfl (cc (cc (cc (cc Zh)))) Zb)))
    ·have hc9 := ife (And.intro Zdr ZcO) hc9
     obtain ⟨r8, hr8, hc9⟩ := bind_some hc9
     (conv => whnf)
     refine st ?_
     refine e3 ?_
     refine st ?_
     refine cm (Zj.weak (rn []) (Zle a.fBound b.fBound _ hr8) rfl (WS.mk (Zd (Zt (lc Zo)) (Zd (Zt (lc Zo)) Zc)) Zb)) ?_
     refine st ?_
     obtain rfl := Zg hc9
     refine st ?_
     exact wx (WS.mk (tc (tc (tp (tp (Zd (Zr (web (And.intro Zdr ZcO))) Zc))))) (Zf rfl (cc (cc (cc (cc Zh)))) (Zf rfl (cc (cc (cc (cc Zh)))) Zb)))
  obtain ⟨r0, hw⟩ := hw
  (conv => whnf)
  refine AWP.weak r0 hw ?_
  refine nw ?_
  refine Zi hF (fun ZcH hF => ?_) (fun ZcH hF => ?_)
  ·refine AWP.seq ?_
   refine ns ?_
   obtain rfl := Zg hF
   refine ns ?_
   refine Exists.intro [] ?_
   refine st ?_
   exact wx (WS.mk (tc Zc) Zb)
  ·refine nw ?_
   refine AWP.seq ?_
   refine AWP.seq ?_
   refine ns ?_
   refine AWP.block ?_
   refine AWP.seq ?_
   refine ns ?_
   refine nw ?_
   refine Zi hF (fun Zh9 hF => ?_) (fun Zh9 hF => ?_)
   ·refine AWP.seq ?_
    obtain ⟨r60, ZDE, hF⟩ := bind_some hF
    obtain ⟨r61, Zy9, hF⟩ := bind_some hF
    refine nn ?_
    refine Or.inr (Exists.intro [0, 4, 5, 6] (Exists.intro [[45, 49, 50, 51], [45, 49, 50, 51], [45, 49, 50, 51], [45, 49, 51]] (Exists.intro [5] (Exists.intro [2, 3, 5, 45, 49, 50, 51] (Exists.intro [45, 49, 50, 51] (Exists.intro [1, 2, 3, 7, 8, 9] (And.intro (by decide +kernel) ?_)))))))
    refine dp ?_
    refine dp ?_
    refine dp ?_
    refine dp ?_
    refine st ?_
    refine e3 ?_
    refine st ?_
    refine cm (Zj.weak (rn []) (Zjz x a.fName _ ZDE) rfl (WS.mk (tc (tc Zc)) Zb)) ?_
    refine st ?_
    refine e3 ?_
    refine st ?_
    refine cm (Zj.weak (rn []) (Zjz y b.fName _ Zy9) rfl (WS.mk (tc (tc Zc)) Zb)) ?_
    refine st ?_
    refine AWP.seq ?_
    refine AWP.cutN (fun T => ∃ r, WS r T ⟨[(8, .c none (.v (.bool ((r60 == r61) && ((decide (r60 ≥ 0)) || (a.fName.toList == b.fName.toList))))))], []⟩) ?_ (fun T hw => ?_)
    ·refine ns ?_
     refine Zm true (fun ZuV => ?_) (fun ZuV => ?_)
     ·(conv => whnf)
      refine st ?_
      refine Zm false (fun Zqe => ?_) (fun Zqe => ?_)
      ·(conv => whnf)
       refine st ?_
       exact wx (WS.mk (Zd (Zr (web (And.intro ZuV Zqe))) Zc) Zb)
      ·(conv => whnf)
       refine st ?_
       exact wx (WS.mk (Zd (Zr (web (And.intro ZuV Zqe))) Zc) Zb)
     ·(conv => whnf)
      refine st ?_
      exact wx (WS.mk (Zd (Zr (web ZuV)) Zc) Zb)
    obtain ⟨r0, hw⟩ := hw
    (conv => whnf)
    refine AWP.weak r0 hw ?_
    obtain rfl := Zg hF
    refine ns ?_
    refine Exists.intro [] ?_
    refine st ?_
    exact wx (WS.mk (tc Zc) Zb)
   ·refine AWP.seq ?_
    refine ns ?_
    refine nw ?_
    refine Zi hF (fun ZrK hF => ?_) (fun ZrK hF => ?_)
    ·refine AWP.seq ?_
     refine ns ?_
     refine AWP.seq ?_
     obtain ⟨ZDo, hF⟩ := Zy hF
     refine nn ?_
     refine sa (fun l => ZbS l (fun x => ZfN x)) ZDo ?_
     refine Exists.intro _ (And.intro (WE.refl _) ?_)
     (try rw [List.nil_append])
     refine st ?_
     refine AWP.seq ?_
     obtain ⟨ZIw, hF⟩ := Zy hF
     refine ns ?_
     refine Exists.intro _ (And.intro (Zbv (f := c_S) (lc Zo) (ZY (f := c_S))) ?_)
     refine sa (fun l => ZbS l (fun x => ZfN x)) ZIw ?_
     refine Exists.intro _ (And.intro (WE.refl _) ?_)
     rw [← List.map_append]
     refine st ?_
     refine AWP.seq ?_
     obtain ⟨ZIx, hF⟩ := Zy hF
     refine nn ?_
     refine sa (fun l => ZbS l (fun x => ZfN x)) ZIx ?_
     refine Exists.intro _ (And.intro (WE.refl _) ?_)
     (try rw [List.nil_append])
     refine st ?_
     refine AWP.seq ?_
     obtain ⟨ZG3, hF⟩ := Zy hF
     refine ns ?_
     refine Exists.intro _ (And.intro (Zbv (f := c_S) (lc Zo) (ZY (f := c_S))) ?_)
     refine sa (fun l => ZbS l (fun x => ZfN x)) ZG3 ?_
     refine Exists.intro _ (And.intro (WE.refl _) ?_)
     rw [← List.map_append]
     refine st ?_
     refine AWP.seq ?_
     refine ns ?_
     refine ns ?_
     refine AWP.weak (rn []) ?_ (ZhM (x ++ ([a.fName])) (y ++ ([b.fName])) a b _ hF)
     exact (WS.mk (tc (tc (tp (tp Zc)))) (Zf rfl (cc (cc (cc (cc Zh)))) (Zf rfl (cc (cc (cc (cc Zh)))) Zb)))
    ·refine AWP.seq ?_
     refine ns ?_
     refine nw ?_
     refine Zi hF (fun ZDy hF => ?_) (fun ZDy hF => ?_)
     ·refine AWP.seq ?_
      refine ns ?_
      obtain rfl := Zg hF
      refine ns ?_
      refine Exists.intro [] ?_
      refine st ?_
      exact wx (WS.mk (tc Zc) Zb)
     ·refine nw ?_
      refine AWP.weak (rn []) ?_ (ZhM x y a b _ hF)
      exact (WS.mk (tc (tc (tp (tp Zc)))) (Zf rfl (cc (cc (cc (cc Zh)))) (Zf rfl (cc (cc (cc (cc Zh)))) Zb)))
 ·intro lazycref04_Alike_l2' Zfr x_2 y_3 a b r hF
  unfold ZaH.M
  refine AWP.seq ?_
  refine AWP.seq ?_
  refine ns ?_
  refine AWP.block ?_
  refine AWP.loop ?_
  refine AWL.weak (rn []) ?_ (Zfr x_2 y_3 0 a b a.fKids _ hF ([]) rfl rfl)
  exact (WS.mk (tc (tc (tp (tp (tc Zc))))) (Zf rfl (cc (cc (cc (cc Zh)))) (Zf rfl (cc (cc (cc (cc Zh)))) Zb)))
 ·intro lazycref04_Alike' lazycref04_Alike_l2' Znx Zfr x_2 y_3 Zge a b ZcG r hF
  unfold Z6.M
  intro Zhu Zox Zo8
  refine AWL.step ?_
  refine AWP.seq ?_
  refine AWP.seq ?_
  refine ns ?_
  intro hlen48
  (try rw [List.length_map] at hlen48)
  (try rw [List.length_map])
  refine st ?_
  refine nw ?_
  refine ZN Zox Zo8 (fun x49 ZDP ZEc ZGN ZDM => ?_) (fun ZEc => ?_)
  ·subst ZEc
   refine nw ?_
   refine AWP.seq ?_
   refine AWP.block ?_
   refine AWP.seq ?_
   obtain ⟨x54, ZHT, hF⟩ := bind_some hF
   obtain ⟨r55, ZHg, hF⟩ := bind_some hF
   refine nn ?_
   refine Or.inl (Exists.intro 12 (Exists.intro [[], [], [], [], [], [], [], [], [], [], [], []] (Exists.intro [([94, 95, 96, 97, 98, 99, 100, 101, 102, 103, 104, 105], [], []), ([95, 96, 97, 98, 99, 100, 101, 102, 103, 104, 105], [], []), ([94, 95, 96, 97, 98, 99, 100, 101, 102, 103, 104, 105], [], []), ([97, 98, 99, 100, 101, 102, 103, 104, 105], [], []), ([98, 99, 100, 101, 102, 103, 104, 105], [], []), ([94, 95, 96, 97, 98, 99, 100, 101, 102, 103, 104, 105], [], []), ([94, 95, 96, 97, 98, 100, 101, 102, 103, 104, 105], [], []), ([94, 95, 96, 97, 98, 99, 100, 101, 102, 103, 104, 105], [], []), ([94, 95, 96, 97, 98, 102, 103, 104, 105], [], []), ([94, 95, 96, 97, 98, 103, 104, 105], [], []), ([94, 95, 96, 97, 98, 99, 100, 101, 102, 103, 104, 105], [], []), ([94, 95, 96, 97, 98, 99, 100, 101, 102, 103, 104, 105], [], [])] (Exists.intro [94, 95, 96, 97, 98, 99, 100, 101, 102, 103, 104, 105] (And.intro (by decide +kernel) ?_)))))
   refine dp ?_
   refine dp ?_
   refine dp ?_
   refine dr (Zab (Za.cells_eq x49) ZGN) ?_
   refine dp ?_
   refine dp ?_
   refine dp ?_
   refine dp ?_
   refine dr (Zab (Za.cells_eq x54) ZHT) ?_
   refine dp ?_
   refine dp ?_
   refine dp ?_
   refine st ?_
   refine e3 ?_
   refine st ?_
   refine cm (Zj.weak (rn []) (Znx x49 x54 x_2 y_3 _ ZHg) rfl (WS.mk (Zd (Zt (lc (lc (lc (lc Zo))))) (Zd (Zt (lc (lc (lc (lc Zo))))) (tc (tc Zc)))) Zb)) ?_
   refine st ?_
   refine nw ?_
   refine Zi hF (fun ZkT hF => ?_) (fun ZkT hF => ?_)
   ·refine AWP.seq ?_
    refine ns ?_
    obtain rfl := Zg hF
    refine ns ?_
    refine Exists.intro [] ?_
    refine st ?_
    exact wx (WS.mk (tc Zc) Zb)
   ·refine nw ?_
    refine ns ?_
    refine AWL.weak (rn []) ?_ (Zfr x_2 y_3 (Zge + 1) a b ZDP _ hF (Zhu ++ [x49]) (by rw [Zox]; simp) (by rw [Zo8]; simp))
    exact (WS.mk (tc (tc (tp (tp (Zd (Zr (Zdf (ZV hlen48 ZDM))) Zc))))) (Zf rfl (cc (cc (cc (cc Zh)))) (Zf rfl (cc (cc (cc (cc Zh)))) Zb)))
  ·subst ZEc
   refine nw ?_
   refine AWP.seq ?_
   refine ns ?_
   obtain rfl := Zg hF
   refine ns ?_
   refine Exists.intro [] ?_
   refine st ?_
   exact wx (WS.mk (tc Zc) Zb)
theorem ZnN : ∀ (a : Za) (b : Za) (x : (List ByteArray)) (y : (List ByteArray)), ∀ r, ZaS a b x y = some r → ZaS.M a b x y r := Zf3.1
theorem lazycref04_Alike_k1_ok : ∀ (x_2 : (List ByteArray)) (y_3 : (List ByteArray)) (a : Za) (b : Za), ∀ r, ZaH x_2 y_3 a b = some r → ZaH.M x_2 y_3 a b r := Zf3.2.1
theorem lazycref04_Alike_l2_ok : ∀ (x_2 : (List ByteArray)) (y_3 : (List ByteArray)) (Zge : Nat) (a : Za) (b : Za) (ZcG : (List Za)), ∀ r, Z6 x_2 y_3 Zge a b ZcG = some r → Z6.M x_2 y_3 Zge a b ZcG r := Zf3.2.2

def Zb7 (a : Za) (b : Za) : Option (Bool) :=
 ZaI a >>= fun r1 =>
 (if (r1 == 0) = true then ZaI b >>= fun r2 =>
 some (r2 == 0) else some false) >>= fun c3 =>
 (if c3 = true then ZaS a b ([] : List ByteArray) ([] : List ByteArray) >>= fun r4 =>
 some r4 else some false) >>= fun c5 =>
 some c5
def Zb7.M (a : Za) (b : Za) (r : Bool) : Prop :=
 Zj Tryz.prog 18 [.agg [.v (.int .i64 a.fOp), .v (.string a.fName), .sl (a.fBound.fArgs.map Zk.cells), .sl (a.fKids.map Za.cells)], .agg [.v (.int .i64 b.fOp), .v (.string b.fName), .sl (b.fBound.fArgs.map Zk.cells), .sl (b.fKids.map Za.cells)]] [] (fun d b => d = .c none (.v (.bool r)) ∧ b = [])
theorem ZiY (a : Za) (b : Za) (r : Bool) (hF : Zb7 a b = some r) : Zb7.M a b r := by
 unfold Zb7 at hF
 unfold Zb7.M
 refine en Tryz.func18 ?_
 refine AWP.seq ?_
 refine ns ?_
 refine AWP.seq ?_
 obtain ⟨r1, hr1, hF⟩ := bind_some hF
 obtain ⟨c3, hc3, hF⟩ := bind_some hF
 obtain ⟨c5, hc5, hF⟩ := bind_some hF
 refine AWP.cutN (fun T => ∃ r, WS r T ⟨[(4, .c none (.v (.bool c5)))], []⟩) ?_ (fun T hw => ?_)
 ·refine ns ?_
  refine e3 ?_
  refine st ?_
  refine cm (Zj.weak (rn []) (ZdH a _ hr1) rfl (WS.mk (Zd (Zt (lc (lc (lc (lc Zo))))) Zc) Zb)) ?_
  refine st ?_
  refine Zm true (fun hc6 => ?_) (fun hc6 => ?_)
  ·have hc3 := ift hc6 hc3
   obtain ⟨r2, hr2, hc3⟩ := bind_some hc3
   (conv => whnf)
   refine st ?_
   refine e3 ?_
   refine st ?_
   refine cm (Zj.weak (rn []) (ZdH b _ hr2) rfl (WS.mk (Zd (Zt (lc (lc (lc (lc Zo))))) Zc) Zb)) ?_
   refine st ?_
   obtain rfl := Zg hc3
   refine st ?_
   refine Zm true (fun hc7 => ?_) (fun hc7 => ?_)
   ·have hc5 := ift (And.intro hc6 hc7) hc5
    obtain ⟨r4, hr4, hc5⟩ := bind_some hc5
    (conv => whnf)
    refine st ?_
    refine e3 ?_
    refine st ?_
    refine cm (Zj.weak (rn []) (ZnN a b ([] : List ByteArray) ([] : List ByteArray) _ hr4) rfl (WS.mk (Zd (Zt (lc (lc (lc (lc Zo))))) (Zd (Zt (lc (lc (lc (lc Zo))))) (Zd (Zr WE.nil) (Zd (Zr WE.nil) Zc)))) Zb)) ?_
    refine st ?_
    obtain rfl := Zg hc5
    refine st ?_
    exact wx (WS.mk (Zd (Zr (web (And.intro hc6 hc7))) Zc) Zb)
   ·have hc5 := ife (And.intro hc6 hc7) hc5
    (conv => whnf)
    obtain rfl := Zg hc5
    refine st ?_
    exact wx (WS.mk (Zd (Zr (web (And.intro hc6 hc7))) Zc) Zb)
  ·have hc3 := ife hc6 hc3
   (conv => whnf)
   obtain rfl := Zg hc3
   have hc5 := ife hc6 hc5
   obtain rfl := Zg hc5
   refine st ?_
   exact wx (WS.mk (Zd (Zr (web hc6)) Zc) Zb)
 obtain ⟨r0, hw⟩ := hw
 (conv => whnf)
 refine AWP.weak r0 hw ?_
 obtain rfl := Zg hF
 refine ns ?_
 refine Exists.intro [] ?_
 refine st ?_
 exact wx (WS.mk (tc Zc) Zb)

def ZbA (a : (List Ze)) (b : (List Ze)) (i_5 : Nat) (Zaw : (List Ze)) : Option (Bool) :=
 (match Zaw with
 | x32 :: Zv9 =>
 (b[i_5]?) >>= fun x35 =>
 (if (!(x32.fName.toList == x35.fName.toList)) = true then some true else (b[i_5]?) >>= fun x36 =>
 Zb7 x32.fType x36.fType >>= fun r37 =>
 some (!r37)) >>= fun c38 =>
 if c38 = true then
 some false
 else
 ZbA a b (i_5 + 1) Zv9
 | [] =>
 some true)
 partial_fixpoint
def ZbA.M (a : (List Ze)) (b : (List Ze)) (i_5 : Nat) (Zaw : (List Ze)) (r : Bool) : Prop :=
 ∀ Zdy : List Ze, a = Zdy ++ Zaw → i_5 = Zdy.length → a.length ≤ maxLen → b.length ≤ maxLen → AWL Tryz.prog 42 (Code.sub (Zq Tryz.f14) [1, 1, 0, 1, 0, 0]) (Code.cont Tryz.prog 42 (Zq Tryz.f14) [1, 1, 0, 1, 0] (ZbV tab Tryz.f14.results (ZbX (.c none (.v (.bool r))) []))) ⟨[(0, .c none (.sl (a.map Ze.cells))), (1, .c none (.sl (b.map Ze.cells))), (5, .c none (.v (.int .i64 ((i_5 : Nat) : Int))))], []⟩
theorem Zme (a : (List Ze)) (b : (List Ze)) (i_5 : Nat) (Zaw : (List Ze)) : ∀ r, ZbA a b i_5 Zaw = some r → ZbA.M a b i_5 Zaw r := by
 refine ZbA.partial_correctness a b (fun i_5 Zaw r => ZbA.M a b i_5 Zaw r) ?_ i_5 Zaw
 intro lazycref18_Same_l1' Zhs i_5 Zaw r hF
 have Zl8 := fun (_a : (List Ze)) (_b : (List Ze)) (i_5 : Nat) (Zaw : (List Ze)) => Zhs i_5 Zaw
 clear Zhs
 unfold ZbA.M
 intro Zdy ZhB ZhA hlen4 hlen5
 refine AWL.step ?_
 refine AWP.seq ?_
 refine AWP.seq ?_
 refine ns ?_
 intro hlen31
 (try rw [List.length_map] at hlen31)
 (try rw [List.length_map])
 refine st ?_
 refine nw ?_
 refine ZN ZhB ZhA (fun x32 Zv9 Zwp ZBp ZC4 => ?_) (fun Zwp => ?_)
 ·subst Zwp
  refine nw ?_
  refine AWP.seq ?_
  refine AWP.block ?_
  refine AWP.seq ?_
  obtain ⟨x35, ZHL, hF⟩ := bind_some hF
  obtain ⟨c38, Zkv, hF⟩ := bind_some hF
  refine AWP.cutN (fun T => ∃ r, WS r T ⟨[(0, .c none (.sl (a.map Ze.cells))), (1, .c none (.sl (b.map Ze.cells))), (5, .c none (.v (.int .i64 ((i_5 : Nat) : Int)))), (41, .c none (.v (.bool c38)))], []⟩) ?_ (fun T hw => ?_)
  ·refine nn ?_
   refine Or.inl (Exists.intro 22 (Exists.intro [[], [], [], [], [], [], [], [], [], [], [], [], [], [], [], [], [], [], [], [], [], []] (Exists.intro [([17, 18, 19, 20, 21, 22, 23, 24, 25, 26, 27, 28, 29, 30, 31, 32, 33, 34, 35, 36, 37, 38], [], []), ([17, 18, 19, 20, 21, 22, 23, 24, 25, 26, 27, 28, 29, 30, 31, 32, 33, 34, 35, 36, 37, 38], [], []), ([19, 20, 21, 22, 23, 24, 25, 26, 27, 28, 29, 30, 31, 32, 33, 34, 35, 36, 37, 38], [], []), ([20, 21, 22, 23, 24, 25, 26, 27, 28, 29, 30, 31, 32, 33, 34, 35, 36, 37, 38], [], []), ([21, 22, 23, 24, 25, 26, 27, 28, 29, 30, 31, 32, 33, 34, 35, 36, 37, 38], [], []), ([17, 18, 19, 20, 21, 22, 23, 24, 25, 26, 27, 28, 29, 30, 31, 32, 33, 34, 35, 36, 37, 38], [], []), ([17, 18, 19, 20, 21, 22, 23, 24, 25, 26, 27, 28, 29, 30, 31, 32, 33, 34, 35, 36, 37, 38], [], []), ([17, 18, 19, 20, 21, 24, 25, 26, 27, 28, 29, 30, 31, 32, 33, 34, 35, 36, 37, 38], [], []), ([17, 18, 19, 20, 21, 25, 26, 27, 28, 29, 30, 31, 32, 33, 34, 35, 36, 37, 38], [], []), ([17, 18, 19, 20, 21, 26, 27, 28, 29, 30, 31, 32, 33, 34, 35, 36, 37, 38], [], []), ([27, 28, 29, 30, 31, 32, 33, 34, 35, 36, 37, 38], [], []), ([28, 29, 30, 31, 32, 33, 34, 35, 36, 37, 38], [], []), ([29, 30, 31, 32, 33, 34, 35, 36, 37, 38], [], []), ([29, 30, 31, 32, 33, 34, 35, 36, 37, 38], [], []), ([31, 32, 33, 34, 35, 36, 37, 38], [], []), ([32, 33, 34, 35, 36, 37, 38], [], []), ([33, 34, 35, 36, 37, 38], [], []), ([29, 30, 31, 32, 33, 34, 35, 36, 37, 38], [], []), ([29, 30, 31, 32, 33, 34, 35, 36, 37, 38], [], []), ([29, 30, 31, 32, 33, 36, 37, 38], [], []), ([29, 30, 31, 32, 33, 37, 38], [], []), ([29, 30, 31, 32, 33, 38], [], [])] (Exists.intro [17, 18, 19, 20, 21, 22, 23, 24, 25, 26, 27, 28, 29, 30, 31, 32, 33, 34, 35, 36, 37, 38] (And.intro (by decide +kernel) ?_)))))
   refine dp ?_
   refine dp ?_
   refine dr (Zab (Ze.cells_eq x32) ZBp) ?_
   refine dp ?_
   refine dp ?_
   refine dp ?_
   refine dp ?_
   refine dr (Zab (Ze.cells_eq x35) ZHL) ?_
   refine dp ?_
   refine dp ?_
   refine dp ?_
   refine dp ?_
   refine st ?_
   refine Zm false (fun ZhW => ?_) (fun ZhW => ?_)
   ·have Zkv := ift ZhW Zkv
    (conv => whnf)
    obtain rfl := Zg Zkv
    refine st ?_
    exact wx (WS.mk (tc (tc (tc (Zd (Zr (web ZhW)) Zc)))) Zb)
   ·have Zkv := ife ZhW Zkv
    obtain ⟨x36, ZHm, Zkv⟩ := bind_some Zkv
    obtain ⟨r37, ZCF, Zkv⟩ := bind_some Zkv
    (conv => whnf)
    refine dp ?_
    refine dp ?_
    refine dr (Zab (Ze.cells_eq x32) ZBp) ?_
    refine dp ?_
    refine dp ?_
    refine dp ?_
    refine dp ?_
    refine dr (Zab (Ze.cells_eq x36) ZHm) ?_
    refine dp ?_
    refine dp ?_
    refine st ?_
    refine e3 ?_
    refine st ?_
    refine cm (Zj.weak (rn []) (ZiY x32.fType x36.fType _ ZCF) rfl (WS.mk (Zd (Zt (lc (lc (lc (lc Zo))))) (Zd (Zt (lc (lc (lc (lc Zo))))) Zc)) Zb)) ?_
    refine st ?_
    obtain rfl := Zg Zkv
    refine st ?_
    exact wx (WS.mk (tc (tc (tc (Zd (Zr (web ZhW)) Zc)))) Zb)
  obtain ⟨r0, hw⟩ := hw
  (conv => whnf)
  refine AWP.weak r0 hw ?_
  refine nw ?_
  refine Zi hF (fun Zol hF => ?_) (fun Zol hF => ?_)
  ·refine AWP.seq ?_
   refine ns ?_
   obtain rfl := Zg hF
   refine ns ?_
   refine Exists.intro [] ?_
   refine st ?_
   exact wx (WS.mk (tc Zc) Zb)
  ·refine nw ?_
   refine ns ?_
   refine AWL.weak (rn []) ?_ (Zl8 a b (i_5 + 1) Zv9 _ hF (Zdy ++ [x32]) (by rw [ZhB]; simp) (by rw [ZhA]; simp) hlen31 hlen5)
   exact (WS.mk (tc (tc (Zd (Zr (Zdf (ZV hlen31 ZC4))) Zc))) Zb)
 ·subst Zwp
  refine nw ?_
  refine AWP.seq ?_
  refine ns ?_
  obtain rfl := Zg hF
  refine ns ?_
  refine Exists.intro [] ?_
  refine st ?_
  exact wx (WS.mk (tc Zc) Zb)

def ZbM (a : (List Ze)) (b : (List Ze)) : Option (Bool) :=
 if (((a.length : Nat) : Int) != ((b.length : Nat) : Int)) = true then
 some false
 else
 ZbA a b 0 a
def ZbM.M (a : (List Ze)) (b : (List Ze)) (r : Bool) : Prop :=
 Zj Tryz.prog 14 [.c none (.sl (a.map Ze.cells)), .c none (.sl (b.map Ze.cells))] [] (fun d b => d = .c none (.v (.bool r)) ∧ b = [])
theorem ZjJ (a : (List Ze)) (b : (List Ze)) (r : Bool) (hF : ZbM a b = some r) : ZbM.M a b r := by
 unfold ZbM at hF
 unfold ZbM.M
 refine en Tryz.func14 ?_
 refine AWP.seq ?_
 refine ns ?_
 refine AWP.seq ?_
 refine AWP.seq ?_
 refine ns ?_
 intro hlen4
 (try rw [List.length_map] at hlen4)
 (try rw [List.length_map])
 refine st ?_
 intro hlen5
 (try rw [List.length_map] at hlen5)
 (try rw [List.length_map])
 refine st ?_
 refine nw ?_
 refine Zi hF (fun hc6 hF => ?_) (fun hc6 hF => ?_)
 ·refine AWP.seq ?_
  refine ns ?_
  obtain rfl := Zg hF
  refine ns ?_
  refine Exists.intro [] ?_
  refine st ?_
  exact wx (WS.mk (tc Zc) Zb)
 ·refine nw ?_
  refine AWP.seq ?_
  refine AWP.seq ?_
  refine ns ?_
  refine AWP.block ?_
  refine AWP.loop ?_
  refine AWL.weak (rn []) ?_ (Zme a b 0 a _ hF ([]) rfl rfl hlen4 hlen5)
  exact (WS.mk (tc (tc (tc Zc))) Zb)

def Zdn (s : ByteArray) : Option (Za) :=
 some (Za.mk 2 s (Zk.mk ([] : List Zk)) ([] : List Za))
def Zdn.M (s : ByteArray) (r : Za) : Prop :=
 Zj Tryz.prog 30 [.c none (.v (.string s))] [] (fun d b => d = .agg [.v (.int .i64 r.fOp), .v (.string r.fName), .sl (r.fBound.fArgs.map Zk.cells), .sl (r.fKids.map Za.cells)] ∧ b = [])
theorem ZfI (s : ByteArray) (r : Za) (hF : Zdn s = some r) : Zdn.M s r := by
 unfold Zdn at hF
 unfold Zdn.M
 refine en Tryz.func30 ?_
 refine AWP.seq ?_
 refine ns ?_
 refine AWP.seq ?_
 refine ns ?_
 obtain rfl := Zg hF
 refine ns ?_
 refine Exists.intro [] ?_
 refine st ?_
 exact wx (WS.mk (Zd (Zt (lc (lc (ZaR WE.nil (ZaR WE.nil Zo))))) Zc) Zb)

end Go.Proofs.YtgbglhbdjambbaaGreatDoor
