/- Part 6 of the proof: the program's functions as Lean functions with their walks, and the plain law. It holds for every input, without conditions. -/
import Derived.Test.YtgbglhbdjambbaaGreatDoorUqA
import Derived.Test.YtgbglhbdjambbaaGreatDoorUqB
import Derived.Test.YtgbglhbdjambbaaGreatDoorUqC
import Derived.Test.YtgbglhbdjambbaaGreatDoorUqD
import Derived.Test.YtgbglhbdjambbaaGreatDoorUqE
set_option linter.unusedVariables false
set_option linter.unusedSimpArgs false
set_option maxRecDepth 100000
set_option maxHeartbeats 4000000
set_option synthInstance.maxHeartbeats 1000000
set_option synthInstance.maxSize 1000
namespace Go.Proofs.YtgbglhbdjambbaaGreatDoor
open Go Go.Am
mutual
def Zco (t : Za) : Option (Za) :=
 ZaT t.fBound >>= fun r1 =>
 ZaM t 0 r1 ([]) t.fKids
 partial_fixpoint
def ZaM (t : Za) (Zfx : Nat) (r1 : (Zk)) (Zfb : (List Za)) (Zcf : (List Za)) : Option (Za) :=
 (match Zcf with
 | x60 :: ZDK =>
 Zco x60 >>= fun r69 =>
 Z4 ((Zfb.length + ([r69]).length) * 72 ≤ 140737488355328) >>= fun _ =>
 ZaM t (Zfx + 1) r1 (Zfb ++ ([r69])) ZDK
 | [] =>
 some (Za.mk t.fOp t.fName r1 Zfb))
 partial_fixpoint
end
def Zco.M (t : Za) (r : Za) : Prop :=
 Zj Tryz.prog 95 [.agg [.v (.int .i64 t.fOp), .v (.string t.fName), .sl (t.fBound.fArgs.map Zk.cells), .sl (t.fKids.map Za.cells)]] [] (fun d b => d = .agg [.v (.int .i64 r.fOp), .v (.string r.fName), .sl (r.fBound.fArgs.map Zk.cells), .sl (r.fKids.map Za.cells)] ∧ b = [])
def ZaM.M (t : Za) (Zfx : Nat) (r1 : (Zk)) (Zfb : (List Za)) (Zcf : (List Za)) (r : Za) : Prop :=
 ∀ ZeQ : List Za, t.fKids = ZeQ ++ Zcf → Zfx = ZeQ.length → t.fKids.length ≤ maxLen → AWL Tryz.prog 28 (Code.sub (Zq Tryz.f95) [1, 1, 1, 1, 0, 1, 0, 0]) (Code.cont Tryz.prog 28 (Zq Tryz.f95) [1, 1, 1, 1, 0, 1, 0] (ZbW tab Tryz.f95.results (ZbY (.agg [.v (.int .i64 r.fOp), .v (.string r.fName), .sl (r.fBound.fArgs.map Zk.cells), .sl (r.fKids.map Za.cells)]) []))) ⟨[(1, .ptr 1 0), (2, .ptr 2 0), (13, .c none (.sl (t.fKids.map Za.cells))), (14, .c none (.v (.int .i64 ((t.fKids.length : Nat) : Int)))), (15, .c none (.v (.int .i64 ((Zfx : Nat) : Int))))], [(1, [(none, .v (.int .i64 t.fOp)), (none, .v (.string t.fName)), (none, .sl (r1.fArgs.map Zk.cells)), ((some (4053, 28)), .sl (Zfb.map Za.cells))]), (2, [(none, .v (.int .i64 0)), (none, .v (.string (ByteArray.mk #[]))), (none, .nils), (none, .nils)])]⟩
theorem Zk9 : (∀ (t : Za), ∀ r, Zco t = some r → Zco.M t r) ∧ (∀ (t : Za) (Zfx : Nat) (r1 : (Zk)) (Zfb : (List Za)) (Zcf : (List Za)), ∀ r, ZaM t Zfx r1 Zfb Zcf = some r → ZaM.M t Zfx r1 Zfb Zcf r) := by
 refine Zco.mutual_partial_correctness Zco.M ZaM.M ?_ ?_
 ·intro types_copied_l1' Zg0 t r hF
  unfold Zco.M
  refine en Tryz.func95 ?_
  refine AWP.seq ?_
  refine ns ?_
  refine AWP.seq ?_
  obtain ⟨r1, hr1, hF⟩ := bind_some hF
  refine ns ?_
  refine e3 ?_
  refine st ?_
  refine cm (Zj.weak (rn []) (ZnC t.fBound _ hr1) rfl (WS.mk (Zd (Zt (lc Zo)) Zb) Zc)) ?_
  refine st ?_
  refine AWP.seq ?_
  refine ns ?_
  refine AWP.seq ?_
  refine ns ?_
  refine AWP.seq ?_
  refine AWP.seq ?_
  refine ns ?_
  intro hlen36
  (try rw [List.length_map] at hlen36)
  (try rw [List.length_map])
  refine st ?_
  refine AWP.block ?_
  refine AWP.loop ?_
  refine AWL.weak (rn []) ?_ (Zg0 t 0 r1 ([]) t.fKids _ hF ([]) rfl rfl hlen36)
  exact (WS.mk (tp (tp (tc (tc (tc Zb))))) (Zf rfl (cc (cc (cc (Zno Zh)))) (Zf rfl (cc (cc (cc (cc Zh)))) Zc)))
 ·intro types_copied' types_copied_l1' Zqj Zg0 t Zfx r1 Zfb Zcf r hF
  unfold ZaM.M
  intro ZeQ Zkh Zkf hlen36
  refine AWL.step ?_
  refine AWP.seq ?_
  refine ns ?_
  refine AWP.seq ?_
  refine nw ?_
  refine ZN Zkh Zkf (fun x60 ZDK ZCm ZDc ZG6 => ?_) (fun ZCm => ?_)
  ·subst ZCm
   refine nw ?_
   refine AWP.seq ?_
   refine AWP.block ?_
   refine AWP.seq ?_
   refine nn ?_
   refine sr (Zab (f := Za.cells) (Za.cells_eq x60) ZDc) ?_
   refine st ?_
   obtain ⟨r69, ZDp, hF⟩ := bind_some hF
   obtain ⟨ZIO, hF⟩ := Zy hF
   refine nn ?_
   refine Or.inl (Exists.intro 5 (Exists.intro [[], [], [], [], []] (Exists.intro [([19, 20, 21, 22, 23], [], []), ([20, 21, 22, 23], [], []), ([19, 20, 21, 22, 23], [], []), ([19, 20, 22, 23], [], []), ([19, 20, 23], [], [])] (Exists.intro [19, 20, 21, 22, 23] (And.intro (by decide +kernel) ?_)))))
   refine dp ?_
   refine dp ?_
   refine dp ?_
   (refine st ?_; apply Exists.intro; apply Exists.intro; apply And.intro; (focus ((conv => whnf); refine Exists.intro [] ?_; (conv => whnf); refine And.intro rfl ?_; (conv => whnf); refine Zj.mono (Zj.weak (rn []) (Zqj x60 _ ZDp) rfl (WS.mk (Zd (Zt (lc (lc (lc (lc Zo))))) Zb) Zc)) ?_; rintro d b ⟨rfl, rfl⟩; exact And.intro rfl (And.intro rfl rfl))); apply And.intro; (focus exact rfl); (conv => whnf))
   refine de (Zbs (f := Za.cells) (ZdA (Za.cells_eq r69) (lc (lc (lc (lc Zo))))) (ZY (f := Za.cells))) ?_
   refine sa (fun l => ZbO l (fun x => Za.cells_len x)) ZIO ?_
   refine Exists.intro _ (And.intro (WE.refl _) ?_)
   rw [← List.map_append]
   refine st ?_
   refine ns ?_
   refine AWL.weak (rn [(24, 4053)]) ?_ (Zg0 t (Zfx + 1) r1 (Zfb ++ ([r69])) ZDK _ hF (ZeQ ++ [x60]) (by rw [Zkh]; simp) (by rw [Zkf]; simp) hlen36)
   exact (WS.mk (tp (tp (tc (tc (Zd (Zr (Zdf (ZV hlen36 ZG6))) Zb))))) (Zf rfl (cc (cc (cc (ZtE rfl (WE.refl _) Zh)))) (Zf rfl (cc (cc (cc (cc Zh)))) Zc)))
  ·subst ZCm
   refine nw ?_
   refine AWP.seq ?_
   refine ns ?_
   obtain rfl := Zg hF
   refine ns ?_
   refine Exists.intro [] ?_
   refine st ?_
   exact wx (WS.mk (Zd (Zt (lc (lc (lc (lc Zo))))) Zb) Zc)
theorem Zqh : ∀ (t : Za), ∀ r, Zco t = some r → Zco.M t r := Zk9.1
theorem types_copied_l1_ok : ∀ (t : Za) (Zfx : Nat) (r1 : (Zk)) (Zfb : (List Za)) (Zcf : (List Za)), ∀ r, ZaM t Zfx r1 Zfb Zcf = some r → ZaM.M t Zfx r1 Zfb Zcf r := Zk9.2

def Zbr (t : Za) (s : Zu) : Option (Za) :=
 some t
def Zbr.M (t : Za) (s : Zu) (r : Za) : Prop :=
 AWP Tryz.prog 30 (Code.sub (Zq Tryz.f52) [1, 1]) (Code.cont Tryz.prog 30 (Zq Tryz.f52) [1, 1] (ZbW tab Tryz.f52.results (ZbY (.agg [.v (.int .i64 r.fOp), .v (.string r.fName), .sl (r.fBound.fArgs.map Zk.cells), .sl (r.fKids.map Za.cells)]) [(1000, [(none, .rs 1001 s.flist.length), (none, .rf 1002)]), (1001, [(none, .ob 90 (s.flist.map Ze.cells))]), (1002, [(none, .ob 109 (s.fat.map (Zeb c_S Zcv)))])]))) ⟨[(3, .ptr 3 0), (4, .ptr 4 0)], [(3, [(none, .v (.int .i64 t.fOp)), (none, .v (.string t.fName)), (none, .sl (t.fBound.fArgs.map Zk.cells)), (none, .sl (t.fKids.map Za.cells))]), (4, [(none, .v (.int .i64 0)), (none, .v (.string (ByteArray.mk #[]))), (none, .nils), (none, .nils)]), (1000, [(none, .rs 1001 s.flist.length), (none, .rf 1002)]), (1001, [(none, .ob 90 (s.flist.map Ze.cells))]), (1002, [(none, .ob 109 (s.fat.map (Zeb c_S Zcv)))])]⟩
theorem ZfJ (t : Za) (s : Zu) (r : Za) (hF : Zbr t s = some r) : Zbr.M t s r := by
 unfold Zbr at hF
 unfold Zbr.M
 refine AWP.seq ?_
 refine ns ?_
 obtain rfl := Zg hF
 refine ns ?_
 refine Exists.intro [(1000, 1000), (1001, 1001), (1002, 1002)] ?_
 refine st ?_
 exact wx (WS.mk (Zd (Zt (lc (lc (lc (lc Zo))))) Zb) (Zf rfl (Ze3 (Zaf (by first | exact rfl | simp only [List.length_set])) (cc Zh)) (Zf rfl (cc Zh) (Zf rfl (cc Zh) Zc))))

def ZaP (s : Zu) (t : Za) : Option (Za) :=
 if (t.fOp == 1) = true then
 ZeP s.fat 0 t.fName >>= fun r8 =>
 if r8.2 = true then
 (ixI s.flist r8.1) >>= fun x10 =>
 some x10.fType
 else
 Zbr t s
 else
 Zbr t s
def ZaP.M (s : Zu) (t : Za) (r : Za) : Prop :=
 Zj Tryz.prog 52 [.ptr 1000 0, .agg [.v (.int .i64 t.fOp), .v (.string t.fName), .sl (t.fBound.fArgs.map Zk.cells), .sl (t.fKids.map Za.cells)]] [(1000, [(none, .rs 1001 s.flist.length), (none, .rf 1002)]), (1001, [(none, .ob 90 (s.flist.map Ze.cells))]), (1002, [(none, .ob 109 (s.fat.map (Zeb c_S Zcv)))])] (fun d b => d = .agg [.v (.int .i64 r.fOp), .v (.string r.fName), .sl (r.fBound.fArgs.map Zk.cells), .sl (r.fKids.map Za.cells)] ∧ b = [(1000, [(none, .rs 1001 s.flist.length), (none, .rf 1002)]), (1001, [(none, .ob 90 (s.flist.map Ze.cells))]), (1002, [(none, .ob 109 (s.fat.map (Zeb c_S Zcv)))])])
theorem ZgK (s : Zu) (t : Za) (r : Za) (hF : ZaP s t = some r) : ZaP.M s t r := by
 unfold ZaP at hF
 unfold ZaP.M
 refine en Tryz.func52 ?_
 refine AWP.seq ?_
 refine ns ?_
 refine AWP.seq ?_
 refine AWP.seq ?_
 refine ns ?_
 refine nw ?_
 refine Zi hF (fun hc6 hF => ?_) (fun hc6 hF => ?_)
 ·refine AWP.seq ?_
  obtain ⟨r8, hr8, hF⟩ := bind_some hF
  refine nn ?_
  refine Or.inl (Exists.intro 11 (Exists.intro [[], [], [], [], [], [], [], [], [], [], []] (Exists.intro [([11, 12, 13, 14, 15, 16, 17, 10, 18, 19, 5], [], []), ([12, 13, 14, 15, 16, 17, 10, 18, 19, 5], [], []), ([13, 14, 15, 16, 17, 10, 18, 19, 5], [], []), ([14, 15, 16, 17, 10, 18, 19, 5], [], []), ([11, 12, 13, 14, 15, 16, 17, 10, 18, 19, 5], [], []), ([11, 12, 13, 14, 16, 17, 10, 18, 19, 5], [], []), ([17, 10, 18, 19, 5], [], []), ([10, 18, 19, 5], [], []), ([18, 19, 5], [], []), ([18, 19, 5], [], []), ([19, 5], [], [])] (Exists.intro [11, 12, 13, 14, 15, 16, 17, 10, 18, 19, 5] (And.intro (by decide +kernel) ?_)))))
  refine dp ?_
  refine dp ?_
  refine dp ?_
  refine dp ?_
  refine dp ?_
  refine dp ?_
  (refine st ?_; apply Exists.intro; apply Exists.intro; apply And.intro; (focus (((repeat (first | ((conv => whnf); (with_reducible refine And.intro ?_ ?_); (focus (first | exact Eq.refl _ | exact trivial | (with_reducible assumption) | (with_reducible exact Int.natCast_nonneg _) | exact Nat.le_of_ble_eq_true (Eq.refl true) | exact Zd8 (Eq.refl _) (Eq.refl _) (Eq.refl _) | decide))))); (conv => whnf)) <;> (refine ZhE (m := s.fat) (k := t.fName) ZhN (ev := Zcv) hr8 rfl (fun x => ZmL x) rfl rfl (lc Zo) ?_) <;> ((repeat (first | ((conv => whnf); (with_reducible refine And.intro ?_ ?_); (focus (first | exact Eq.refl _ | exact trivial | (with_reducible assumption) | (with_reducible exact Int.natCast_nonneg _) | exact Nat.le_of_ble_eq_true (Eq.refl true) | exact Zd8 (Eq.refl _) (Eq.refl _) (Eq.refl _) | decide))))); (conv => whnf)) <;> (exact rfl))); apply And.intro; (focus exact rfl); (conv => whnf))
  refine dp ?_
  refine dp ?_
  refine dp ?_
  refine dp ?_
  refine st ?_
  refine AWP.seq ?_
  refine ns ?_
  refine nw ?_
  refine Zi hF (fun hc9 hF => ?_) (fun hc9 hF => ?_)
  ·refine AWP.seq ?_
   obtain ⟨x10, ZF2, ZGw, hF⟩ := ZcL hF
   refine ns ?_
   refine And.intro (ZpL ZF2 ZGw) ?_
   refine st ?_
   refine sr (ZbX (f := Ze.cells) (Ze.cells_eq x10) ZGw) ?_
   refine st ?_
   obtain rfl := Zg hF
   refine ns ?_
   refine Exists.intro [(1000, 1000), (1001, 1001), (1002, 1002)] ?_
   refine st ?_
   exact wx (WS.mk (Zd (Zt (lc (lc (lc (lc Zo))))) Zb) (Zf rfl (Ze3 (Zaf (by first | exact rfl | simp only [List.length_set])) (cc Zh)) (Zf rfl (cc Zh) (Zf rfl (cc Zh) Zc))))
  ·refine nw ?_
   refine AWP.weak (rn []) ?_ (ZfJ t s _ hF)
   exact (WS.mk (tp (tp Zb)) (Zf rfl (cc (cc (cc (cc Zh)))) (Zf rfl (cc (cc (cc (cc Zh)))) (Zf rfl (Ze3 (Zaf (by first | exact rfl | simp only [List.length_set])) (cc Zh)) (Zf rfl (cc Zh) (Zf rfl (cc Zh) Zc))))))
 ·refine nw ?_
  refine AWP.weak (rn []) ?_ (ZfJ t s _ hF)
  exact (WS.mk (tp (tp Zb)) (Zf rfl (cc (cc (cc (cc Zh)))) (Zf rfl (cc (cc (cc (cc Zh)))) (Zf rfl (Ze3 (Zaf (by first | exact rfl | simp only [List.length_set])) (cc Zh)) (Zf rfl (cc Zh) (Zf rfl (cc Zh) Zc))))))

def Za4 (s : (List Ze)) (name_ : ByteArray) (i_5 : Nat) (Zaw : (List Ze)) : Option (Int) :=
 (match Zaw with
 | x16 :: ZjV =>
 if (x16.fName.toList == name_.toList) = true then
 some ((i_5 : Nat) : Int)
 else
 Za4 s name_ (i_5 + 1) ZjV
 | [] =>
 some (-1))
 partial_fixpoint
def Za4.M (s : (List Ze)) (name_ : ByteArray) (i_5 : Nat) (Zaw : (List Ze)) (r : Int) : Prop :=
 ∀ Zdy : List Ze, s = Zdy ++ Zaw → i_5 = Zdy.length → AWL Tryz.prog 20 (Code.sub (Zq Tryz.f46) [1, 0, 1, 0, 0]) (Code.cont Tryz.prog 20 (Zq Tryz.f46) [1, 0, 1, 0] (ZbW tab Tryz.f46.results (ZbY (.c none (.v (.int .i64 r))) []))) ⟨[(0, .c none (.sl (s.map Ze.cells))), (1, .c none (.v (.string name_))), (5, .c none (.v (.int .i64 ((i_5 : Nat) : Int))))], []⟩
theorem Zl6 (s : (List Ze)) (name_ : ByteArray) (i_5 : Nat) (Zaw : (List Ze)) : ∀ r, Za4 s name_ i_5 Zaw = some r → Za4.M s name_ i_5 Zaw r := by
 refine Za4.partial_correctness s name_ (fun i_5 Zaw r => Za4.M s name_ i_5 Zaw r) ?_ i_5 Zaw
 intro lazycref18_find_l1' ZhL i_5 Zaw r hF
 have Zmc := fun (_s : (List Ze)) (_name_ : ByteArray) (i_5 : Nat) (Zaw : (List Ze)) => ZhL i_5 Zaw
 clear ZhL
 unfold Za4.M
 intro Zdy ZhF Zhp
 refine AWL.step ?_
 refine AWP.seq ?_
 refine AWP.seq ?_
 refine ns ?_
 intro hlen15
 (try rw [List.length_map] at hlen15)
 (try rw [List.length_map])
 refine st ?_
 refine nw ?_
 refine ZN ZhF Zhp (fun x16 ZjV ZjR Zrh ZqC => ?_) (fun ZjR => ?_)
 ·subst ZjR
  refine nw ?_
  refine AWP.seq ?_
  refine AWP.block ?_
  refine AWP.seq ?_
  refine nn ?_
  refine sr (Zab (f := Ze.cells) (Ze.cells_eq x16) Zrh) ?_
  refine st ?_
  refine nw ?_
  refine Zi hF (fun Zt4 hF => ?_) (fun Zt4 hF => ?_)
  ·refine AWP.seq ?_
   refine ns ?_
   obtain rfl := Zg hF
   refine ns ?_
   refine Exists.intro [] ?_
   refine st ?_
   exact wx (WS.mk (tc Zb) Zc)
  ·refine nw ?_
   refine ns ?_
   refine AWL.weak (rn []) ?_ (Zmc s name_ (i_5 + 1) ZjV _ hF (Zdy ++ [x16]) (by rw [ZhF]; simp) (by rw [Zhp]; simp))
   exact (WS.mk (tc (tc (Zd (Zr (Zdf (ZV hlen15 ZqC))) Zb))) Zc)
 ·subst ZjR
  refine nw ?_
  refine AWP.seq ?_
  refine ns ?_
  obtain rfl := Zg hF
  refine ns ?_
  refine Exists.intro [] ?_
  refine st ?_
  exact wx (WS.mk (tc Zb) Zc)

def Zb6 (s : (List Ze)) (name_ : ByteArray) : Option (Int) :=
 Za4 s name_ 0 s
def Zb6.M (s : (List Ze)) (name_ : ByteArray) (r : Int) : Prop :=
 Zj Tryz.prog 46 [.c none (.sl (s.map Ze.cells)), .c none (.v (.string name_))] [] (fun d b => d = .c none (.v (.int .i64 r)) ∧ b = [])
theorem ZjQ (s : (List Ze)) (name_ : ByteArray) (r : Int) (hF : Zb6 s name_ = some r) : Zb6.M s name_ r := by
 unfold Zb6 at hF
 unfold Zb6.M
 refine en Tryz.func46 ?_
 refine AWP.seq ?_
 refine ns ?_
 refine AWP.seq ?_
 refine AWP.seq ?_
 refine ns ?_
 refine AWP.block ?_
 refine AWP.loop ?_
 refine AWL.weak (rn []) ?_ (Zl6 s name_ 0 s _ hF ([]) rfl rfl)
 exact (WS.mk (tc (tc (tc Zb))) Zc)

def ZbT (t : Za) : Option (Za) :=
 some t
def ZbT.M (t : Za) (r : Za) : Prop :=
 AWP Tryz.prog 21 (Code.sub (Zq Tryz.f34) [1, 1]) (Code.cont Tryz.prog 21 (Zq Tryz.f34) [1, 1] (ZbW tab Tryz.f34.results (ZbY (.agg [.v (.int .i64 r.fOp), .v (.string r.fName), .sl (r.fBound.fArgs.map Zk.cells), .sl (r.fKids.map Za.cells)]) []))) ⟨[(3, .ptr 3 0), (4, .ptr 4 0)], [(3, [(none, .v (.int .i64 t.fOp)), (none, .v (.string t.fName)), (none, .sl (t.fBound.fArgs.map Zk.cells)), (none, .sl (t.fKids.map Za.cells))]), (4, [(none, .v (.int .i64 0)), (none, .v (.string (ByteArray.mk #[]))), (none, .nils), (none, .nils)])]⟩
theorem Zgq (t : Za) (r : Za) (hF : ZbT t = some r) : ZbT.M t r := by
 unfold ZbT at hF
 unfold ZbT.M
 refine AWP.seq ?_
 refine ns ?_
 obtain rfl := Zg hF
 refine ns ?_
 refine Exists.intro [] ?_
 refine st ?_
 exact wx (WS.mk (Zd (Zt (lc (lc (lc (lc Zo))))) Zb) Zc)

def Zbi (s : (List Ze)) (t : Za) : Option (Za) :=
 if (t.fOp == 1) = true then
 Zb6 s t.fName >>= fun r6 =>
 if (decide (r6 ≥ 0)) = true then
 (ixI s r6) >>= fun x8 =>
 some x8.fType
 else
 ZbT t
 else
 ZbT t
def Zbi.M (s : (List Ze)) (t : Za) (r : Za) : Prop :=
 Zj Tryz.prog 34 [.c none (.sl (s.map Ze.cells)), .agg [.v (.int .i64 t.fOp), .v (.string t.fName), .sl (t.fBound.fArgs.map Zk.cells), .sl (t.fKids.map Za.cells)]] [] (fun d b => d = .agg [.v (.int .i64 r.fOp), .v (.string r.fName), .sl (r.fBound.fArgs.map Zk.cells), .sl (r.fKids.map Za.cells)] ∧ b = [])
theorem ZhH (s : (List Ze)) (t : Za) (r : Za) (hF : Zbi s t = some r) : Zbi.M s t r := by
 unfold Zbi at hF
 unfold Zbi.M
 refine en Tryz.func34 ?_
 refine AWP.seq ?_
 refine ns ?_
 refine AWP.seq ?_
 refine AWP.seq ?_
 refine ns ?_
 refine nw ?_
 refine Zi hF (fun hc5 hF => ?_) (fun hc5 hF => ?_)
 ·refine AWP.seq ?_
  obtain ⟨r6, hr6, hF⟩ := bind_some hF
  refine ns ?_
  refine e3 ?_
  refine st ?_
  refine cm (Zj.weak (rn []) (ZjQ s t.fName _ hr6) rfl (WS.mk (tc (tc Zb)) Zc)) ?_
  refine st ?_
  refine AWP.seq ?_
  refine ns ?_
  refine nw ?_
  refine Zi hF (fun hc7 hF => ?_) (fun hc7 hF => ?_)
  ·refine AWP.seq ?_
   obtain ⟨x8, hx80, hx8, hF⟩ := ZcL hF
   refine nn ?_
   refine sr (ZbX (f := Ze.cells) (Ze.cells_eq x8) hx8) ?_
   refine st ?_
   obtain rfl := Zg hF
   refine ns ?_
   refine Exists.intro [] ?_
   refine st ?_
   exact wx (WS.mk (Zd (Zt (lc (lc (lc (lc Zo))))) Zb) Zc)
  ·refine nw ?_
   refine AWP.weak (rn []) ?_ (Zgq t _ hF)
   exact (WS.mk (tp (tp Zb)) (Zf rfl (cc (cc (cc (cc Zh)))) (Zf rfl (cc (cc (cc (cc Zh)))) Zc)))
 ·refine nw ?_
  refine AWP.weak (rn []) ?_ (Zgq t _ hF)
  exact (WS.mk (tp (tp Zb)) (Zf rfl (cc (cc (cc (cc Zh)))) (Zf rfl (cc (cc (cc (cc Zh)))) Zc)))

def ZaA (s : (List ByteArray)) (v : ByteArray) (x_8 : Nat) (Zbz : (List ByteArray)) : Option (Int) :=
 (match Zbz with
 | x11 :: Zlp =>
 if (v.toList == x11.toList) = true then
 some ((x_8 : Nat) : Int)
 else
 ZaA s v (x_8 + 1) Zlp
 | [] =>
 some (-1))
 partial_fixpoint
def ZaA.M (s : (List ByteArray)) (v : ByteArray) (x_8 : Nat) (Zbz : (List ByteArray)) (r : Int) : Prop :=
 ∀ Zej : List ByteArray, s = Zej ++ Zbz → x_8 = Zej.length → s.length ≤ maxLen → AWL Tryz.prog 19 (Code.sub (Zq Tryz.f123) [1, 0, 1, 0, 0]) (Code.cont Tryz.prog 19 (Zq Tryz.f123) [1, 0, 1, 0] (ZbW tab Tryz.f123.results (ZbY (.c none (.v (.int .i64 r))) []))) ⟨[(0, .c none (.sl (s.map c_S))), (1, .c none (.v (.string v))), (7, .c none (.v (.int .i64 ((s.length : Nat) : Int)))), (8, .c none (.v (.int .i64 ((x_8 : Nat) : Int))))], []⟩
theorem ZjY (s : (List ByteArray)) (v : ByteArray) (x_8 : Nat) (Zbz : (List ByteArray)) : ∀ r, ZaA s v x_8 Zbz = some r → ZaA.M s v x_8 Zbz r := by
 refine ZaA.partial_correctness s v (fun x_8 Zbz r => ZaA.M s v x_8 Zbz r) ?_ x_8 Zbz
 intro slices_Index_string_l1' ZfZ x_8 Zbz r hF
 have ZjZ := fun (_s : (List ByteArray)) (_v : ByteArray) (x_8 : Nat) (Zbz : (List ByteArray)) => ZfZ x_8 Zbz
 clear ZfZ
 unfold ZaA.M
 intro Zej ZjM ZjU hlen1
 refine AWL.step ?_
 refine AWP.seq ?_
 refine ns ?_
 refine AWP.seq ?_
 refine nw ?_
 refine ZN ZjM ZjU (fun x11 Zlp Zlf ZtV Zty => ?_) (fun Zlf => ?_)
 ·subst Zlf
  refine nw ?_
  refine AWP.seq ?_
  refine AWP.block ?_
  refine AWP.seq ?_
  refine ns ?_
  refine AWP.seq ?_
  refine nn ?_
  refine sr (Zab (f := c_S) rfl ZtV) ?_
  refine st ?_
  refine nw ?_
  refine Zi hF (fun Zdk hF => ?_) (fun Zdk hF => ?_)
  ·refine AWP.seq ?_
   refine ns ?_
   obtain rfl := Zg hF
   refine ns ?_
   refine Exists.intro [] ?_
   refine st ?_
   exact wx (WS.mk (tc Zb) Zc)
  ·refine nw ?_
   refine ns ?_
   refine AWL.weak (rn []) ?_ (ZjZ s v (x_8 + 1) Zlp _ hF (Zej ++ [x11]) (by rw [ZjM]; simp) (by rw [ZjU]; simp) hlen1)
   exact (WS.mk (tc (tc (tc (Zd (Zr (Zdf (ZV hlen1 Zty))) Zb)))) Zc)
 ·subst Zlf
  refine nw ?_
  refine AWP.seq ?_
  refine ns ?_
  obtain rfl := Zg hF
  refine ns ?_
  refine Exists.intro [] ?_
  refine st ?_
  exact wx (WS.mk (tc Zb) Zc)

def Zc8 (s : (List ByteArray)) (v : ByteArray) : Option (Int) :=
 ZaA s v 0 s
def Zc8.M (s : (List ByteArray)) (v : ByteArray) (r : Int) : Prop :=
 Zj Tryz.prog 123 [.c none (.sl (s.map c_S)), .c none (.v (.string v))] [] (fun d b => d = .c none (.v (.int .i64 r)) ∧ b = [])
theorem Zla (s : (List ByteArray)) (v : ByteArray) (r : Int) (hF : Zc8 s v = some r) : Zc8.M s v r := by
 unfold Zc8 at hF
 unfold Zc8.M
 refine en Tryz.func123 ?_
 refine AWP.seq ?_
 refine ns ?_
 refine AWP.seq ?_
 refine AWP.seq ?_
 refine ns ?_
 intro hlen1
 (try rw [List.length_map] at hlen1)
 (try rw [List.length_map])
 refine st ?_
 refine AWP.block ?_
 refine AWP.loop ?_
 refine AWL.weak (rn []) ?_ (ZjY s v 0 s _ hF ([]) rfl rfl hlen1)
 exact (WS.mk (tc (tc (tc (tc Zb)))) Zc)

def Zat (s : (List ByteArray)) (v : ByteArray) : Option (Bool) :=
 Zc8 s v >>= fun r1 =>
 some (decide (r1 ≥ 0))
def Zat.M (s : (List ByteArray)) (v : ByteArray) (r : Bool) : Prop :=
 Zj Tryz.prog 97 [.c none (.sl (s.map c_S)), .c none (.v (.string v))] [] (fun d b => d = .c none (.v (.bool r)) ∧ b = [])
theorem ZeK (s : (List ByteArray)) (v : ByteArray) (r : Bool) (hF : Zat s v = some r) : Zat.M s v r := by
 unfold Zat at hF
 unfold Zat.M
 refine en Tryz.func97 ?_
 refine AWP.seq ?_
 refine ns ?_
 refine AWP.seq ?_
 obtain ⟨r1, hr1, hF⟩ := bind_some hF
 refine ns ?_
 refine e3 ?_
 refine st ?_
 refine cm (Zj.weak (rn []) (Zla s v _ hr1) rfl (WS.mk (tc (tc Zb)) Zc)) ?_
 refine st ?_
 obtain rfl := Zg hF
 refine ns ?_
 refine Exists.intro [] ?_
 refine st ?_
 exact wx (WS.mk (tc Zb) Zc)

mutual
def Zc7 (l : (List ByteArray)) (Z3 : (List ByteArray)) (t : Za) : Option ((List ByteArray)) :=
 if (t.fOp == 1) = true then
 Zat Z3 t.fName >>= fun r27 =>
 (if (!r27) = true then Zat l t.fName >>= fun r28 =>
 some (!r28) else some false) >>= fun c29 =>
 if c29 = true then
 Z4 ((l.length + ([t.fName]).length) * 16 ≤ 140737488355328) >>= fun _ =>
 Zbm (l ++ ([t.fName])) Z3 t
 else
 Zbm l Z3 t
 else
 if (t.fOp == 4) = true then
 ZdH Z3 >>= fun r36 =>
 Z4 ((r36.length + ([t.fName]).length) * 16 ≤ 140737488355328) >>= fun _ =>
 Zbm l (r36 ++ ([t.fName])) t
 else
 Zbm l Z3 t
 partial_fixpoint
def Zbm (l_0 : (List ByteArray)) (ZA : (List ByteArray)) (t : Za) : Option ((List ByteArray)) :=
 Zbn l_0 ZA t 0 t.fKids
 partial_fixpoint
def Zbn (l_0 : (List ByteArray)) (ZA : (List ByteArray)) (t : Za) (ZlB : Nat) (Ziv : (List Za)) : Option ((List ByteArray)) :=
 (match Ziv with
 | x22 :: Zvv =>
 Zc7 l_0 ZA x22 >>= fun r25 =>
 Zbn r25 ZA t (ZlB + 1) Zvv
 | [] =>
 some l_0)
 partial_fixpoint
end
def Zc7.M (l : (List ByteArray)) (Z3 : (List ByteArray)) (t : Za) (r : (List ByteArray)) : Prop :=
 Zj Tryz.prog 96 [.c (some (0, 9)) (.sl (l.map c_S)), .c none (.sl (Z3.map c_S)), .agg [.v (.int .i64 t.fOp), .v (.string t.fName), .sl (t.fBound.fArgs.map Zk.cells), .sl (t.fKids.map Za.cells)]] [] (fun d b => d = .c (some (0, 9)) (.sl (r.map c_S)) ∧ b = [])
def Zbm.M (l_0 : (List ByteArray)) (ZA : (List ByteArray)) (t : Za) (r : (List ByteArray)) : Prop :=
 AWP Tryz.prog 51 (Code.sub (Zq Tryz.f96) [1, 1]) (Code.cont Tryz.prog 51 (Zq Tryz.f96) [1, 1] (ZbW tab Tryz.f96.results (ZbY (.c (some (0, 9)) (.sl (r.map c_S))) []))) ⟨[(0, .c (some (0, 9)) (.sl (l_0.map c_S))), (1, .c none (.sl (ZA.map c_S))), (5, .ptr 5 0)], [(5, [(none, .v (.int .i64 t.fOp)), (none, .v (.string t.fName)), (none, .sl (t.fBound.fArgs.map Zk.cells)), (none, .sl (t.fKids.map Za.cells))])]⟩
def Zbn.M (l_0 : (List ByteArray)) (ZA : (List ByteArray)) (t : Za) (ZlB : Nat) (Ziv : (List Za)) (r : (List ByteArray)) : Prop :=
 ∀ ZoV : List Za, t.fKids = ZoV ++ Ziv → ZlB = ZoV.length → t.fKids.length ≤ maxLen → AWL Tryz.prog 51 (Code.sub (Zq Tryz.f96) [1, 1, 0, 1, 0, 0]) (Code.cont Tryz.prog 51 (Zq Tryz.f96) [1, 1, 0, 1, 0] (ZbW tab Tryz.f96.results (ZbY (.c (some (0, 9)) (.sl (r.map c_S))) []))) ⟨[(0, .c (some (0, 9)) (.sl (l_0.map c_S))), (1, .c none (.sl (ZA.map c_S))), (39, .c none (.sl (t.fKids.map Za.cells))), (40, .c none (.v (.int .i64 ((t.fKids.length : Nat) : Int)))), (41, .c none (.v (.int .i64 ((ZlB : Nat) : Int))))], []⟩
theorem Zjw : (∀ (l : (List ByteArray)) (Z3 : (List ByteArray)) (t : Za), ∀ r, Zc7 l Z3 t = some r → Zc7.M l Z3 t r) ∧ (∀ (l_0 : (List ByteArray)) (ZA : (List ByteArray)) (t : Za), ∀ r, Zbm l_0 ZA t = some r → Zbm.M l_0 ZA t r) ∧ (∀ (l_0 : (List ByteArray)) (ZA : (List ByteArray)) (t : Za) (ZlB : Nat) (Ziv : (List Za)), ∀ r, Zbn l_0 ZA t ZlB Ziv = some r → Zbn.M l_0 ZA t ZlB Ziv r) := by
 refine Zc7.mutual_partial_correctness Zc7.M Zbm.M Zbn.M ?_ ?_ ?_
 ·intro types_free_k1' Zgd l Z3 t r hF
  unfold Zc7.M
  refine en Tryz.func96 ?_
  refine AWP.seq ?_
  refine ns ?_
  refine AWP.seq ?_
  refine AWP.seq ?_
  refine ns ?_
  refine AWP.block ?_
  refine AWP.seq ?_
  refine ns ?_
  refine nw ?_
  refine Zi hF (fun ZlI hF => ?_) (fun ZlI hF => ?_)
  ·refine AWP.seq ?_
   obtain ⟨r27, ZH0, hF⟩ := bind_some hF
   obtain ⟨c29, Zox, hF⟩ := bind_some hF
   refine AWP.cutN (fun T => ∃ r, WS r T ⟨[(0, .c (some (0, 9)) (.sl (l.map c_S))), (1, .c none (.sl (Z3.map c_S))), (5, .ptr 5 0), (24, .c none (.v (.bool c29)))], [(5, [(none, .v (.int .i64 t.fOp)), (none, .v (.string t.fName)), (none, .sl (t.fBound.fArgs.map Zk.cells)), (none, .sl (t.fKids.map Za.cells))])]⟩) ?_ (fun T hw => ?_)
   ·refine ns ?_
    refine e3 ?_
    refine st ?_
    refine cm (Zj.weak (rn []) (ZeK Z3 t.fName _ ZH0) rfl (WS.mk (tc (tc Zb)) Zc)) ?_
    refine st ?_
    refine Zm true (fun Zpx => ?_) (fun Zpx => ?_)
    ·have Zox := ift Zpx Zox
     obtain ⟨r28, ZCt, Zox⟩ := bind_some Zox
     (conv => whnf)
     refine st ?_
     refine Exists.intro [0] (Exists.intro [] (Exists.intro [] ?_))
     refine st ?_
     refine cm (Zj.weak (rn []) (ZeK l t.fName _ ZCt) rfl (WS.mk (tc (tc Zb)) Zc)) ?_
     refine st ?_
     obtain rfl := Zg Zox
     refine st ?_
     exact Exists.intro (rn [(0, 0)]) (WS.mk (Zd (Zal rfl (WE.refl _)) (tc (tp (Zd (Zr (web Zpx)) Zb)))) (Zf rfl (cc (cc (cc (cc Zh)))) Zc))
    ·have Zox := ife Zpx Zox
     (conv => whnf)
     obtain rfl := Zg Zox
     refine st ?_
     exact Exists.intro (rn [(0, 0)]) (WS.mk (Zd (Zal rfl (WE.refl _)) (tc (tp (Zd (Zr (web Zpx)) Zb)))) (Zf rfl (cc (cc (cc (cc Zh)))) Zc))
   obtain ⟨r0, hw⟩ := hw
   (conv => whnf)
   refine AWP.weak r0 hw ?_
   refine nw ?_
   refine Zi hF (fun ZyL hF => ?_) (fun ZyL hF => ?_)
   ·obtain ⟨ZD8, hF⟩ := Zy hF
    refine ns ?_
    refine Exists.intro _ (And.intro (Zbs (f := c_S) (lc Zo) (ZY (f := c_S))) ?_)
    refine sa (fun l => ZbO l (fun x => ZfK x)) ZD8 ?_
    refine Exists.intro _ (And.intro (WE.refl _) ?_)
    rw [← List.map_append]
    refine st ?_
    refine AWP.weak (rn [(29, 0)]) ?_ (Zgd (l ++ ([t.fName])) Z3 t _ hF)
    exact (WS.mk (Zd (Zal rfl (WE.refl _)) (tc (tp Zb))) (Zf rfl (cc (cc (cc (cc Zh)))) Zc))
   ·refine nw ?_
    refine AWP.weak (rn [(0, 0)]) ?_ (Zgd l Z3 t _ hF)
    exact (WS.mk (Zd (Zal rfl (WE.refl _)) (tc (tp Zb))) (Zf rfl (cc (cc (cc (cc Zh)))) Zc))
  ·refine AWP.seq ?_
   refine ns ?_
   refine nw ?_
   refine Zi hF (fun ZpF hF => ?_) (fun ZpF hF => ?_)
   ·obtain ⟨r36, ZHW, hF⟩ := bind_some hF
    obtain ⟨ZIn, hF⟩ := Zy hF
    refine nn ?_
    refine Or.inr (Exists.intro [2, 3, 4] (Exists.intro [[34, 35, 36], [35, 36], [36]] (Exists.intro [5] (Exists.intro [5, 34, 35, 36] (Exists.intro [34, 35, 36] (Exists.intro [0, 1, 5, 6] (And.intro (by decide +kernel) ?_)))))))
    refine dp ?_
    refine dp ?_
    refine de (Zbs (f := c_S) (lc Zo) (ZY (f := c_S))) ?_
    refine st ?_
    refine e3 ?_
    refine st ?_
    refine cm (Zj.weak (rn []) (ZlP Z3 _ ZHW) rfl (WS.mk (tc Zb) Zc)) ?_
    refine st ?_
    refine sa (fun l => ZbO l (fun x => ZfK x)) ZIn ?_
    refine Exists.intro _ (And.intro (WE.refl _) ?_)
    rw [← List.map_append]
    refine st ?_
    refine AWP.weak (rn [(0, 0)]) ?_ (Zgd l (r36 ++ ([t.fName])) t _ hF)
    exact (WS.mk (Zd (Zal rfl (WE.refl _)) (tc (tp Zb))) (Zf rfl (cc (cc (cc (cc Zh)))) Zc))
   ·refine nw ?_
    refine AWP.weak (rn [(0, 0)]) ?_ (Zgd l Z3 t _ hF)
    exact (WS.mk (Zd (Zal rfl (WE.refl _)) (tc (tp Zb))) (Zf rfl (cc (cc (cc (cc Zh)))) Zc))
 ·intro types_free_l2' Zif l_0 ZA t r hF
  unfold Zbm.M
  refine AWP.seq ?_
  refine AWP.seq ?_
  refine ns ?_
  intro hlen12
  (try rw [List.length_map] at hlen12)
  (try rw [List.length_map])
  refine st ?_
  refine AWP.block ?_
  refine AWP.loop ?_
  refine AWL.weak (rn [(0, 0)]) ?_ (Zif l_0 ZA t 0 t.fKids _ hF ([]) rfl rfl hlen12)
  exact (WS.mk (Zd (Zal rfl (WE.refl _)) (tc (tc (tc (tc Zb))))) Zc)
 ·intro types_free' types_free_l2' Zr9 Zif l_0 ZA t ZlB Ziv r hF
  unfold Zbn.M
  intro ZoV Zw4 Zxq hlen12
  refine AWL.step ?_
  refine AWP.seq ?_
  refine ns ?_
  refine AWP.seq ?_
  refine nw ?_
  refine ZN Zw4 Zxq (fun x22 Zvv ZvC ZBL ZCA => ?_) (fun ZvC => ?_)
  ·subst ZvC
   refine nw ?_
   refine AWP.seq ?_
   refine AWP.block ?_
   refine AWP.seq ?_
   refine nn ?_
   refine sr (Zab (f := Za.cells) (Za.cells_eq x22) ZBL) ?_
   refine st ?_
   obtain ⟨r25, ZCc, hF⟩ := bind_some hF
   refine ns ?_
   refine e3 ?_
   refine st ?_
   refine cm (Zj.weak (rn [(0, 0)]) (Zr9 l_0 ZA x22 _ ZCc) rfl (WS.mk (Zd (Zal rfl (WE.refl _)) (tc (Zd (Zt (lc (lc (lc (lc Zo))))) Zb))) Zc)) ?_
   refine st ?_
   refine ns ?_
   refine AWL.weak (rn [(48, 0)]) ?_ (Zif r25 ZA t (ZlB + 1) Zvv _ hF (ZoV ++ [x22]) (by rw [Zw4]; simp) (by rw [Zxq]; simp) hlen12)
   exact (WS.mk (Zd (Zal rfl (WE.refl _)) (tc (tc (tc (Zd (Zr (Zdf (ZV hlen12 ZCA))) Zb))))) Zc)
  ·subst ZvC
   refine nw ?_
   refine AWP.seq ?_
   refine ns ?_
   obtain rfl := Zg hF
   refine ns ?_
   refine Exists.intro [] ?_
   refine st ?_
   exact Exists.intro (rn [(0, 0)]) (WS.mk (Zd (Zal rfl (WE.refl _)) Zb) Zc)
theorem Zkz : ∀ (l : (List ByteArray)) (Z3 : (List ByteArray)) (t : Za), ∀ r, Zc7 l Z3 t = some r → Zc7.M l Z3 t r := Zjw.1
theorem types_free_k1_ok : ∀ (l_0 : (List ByteArray)) (ZA : (List ByteArray)) (t : Za), ∀ r, Zbm l_0 ZA t = some r → Zbm.M l_0 ZA t r := Zjw.2.1
theorem types_free_l2_ok : ∀ (l_0 : (List ByteArray)) (ZA : (List ByteArray)) (t : Za) (ZlB : Nat) (Ziv : (List Za)), ∀ r, Zbn l_0 ZA t ZlB Ziv = some r → Zbn.M l_0 ZA t ZlB Ziv r := Zjw.2.2

def Ze1 (t : Za) : Option ((List ByteArray)) :=
 Zci t >>= fun r3 =>
 if (r3 != 0) = true then
 some ([] : List ByteArray)
 else
 Zc7 ([] : List ByteArray) ([] : List ByteArray) t >>= fun r5 =>
 some r5
def Ze1.M (t : Za) (r : (List ByteArray)) : Prop :=
 Zj Tryz.prog 105 [.agg [.v (.int .i64 t.fOp), .v (.string t.fName), .sl (t.fBound.fArgs.map Zk.cells), .sl (t.fKids.map Za.cells)]] [] (fun d b => d = .c (some (0, 9)) (.sl (r.map c_S)) ∧ b = [])
theorem ZnW (t : Za) (r : (List ByteArray)) (hF : Ze1 t = some r) : Ze1.M t r := by
 unfold Ze1 at hF
 unfold Ze1.M
 refine en Tryz.func105 ?_
 refine AWP.seq ?_
 refine ns ?_
 refine AWP.seq ?_
 refine AWP.seq ?_
 obtain ⟨r3, hr3, hF⟩ := bind_some hF
 refine ns ?_
 refine e3 ?_
 refine st ?_
 refine cm (Zj.weak (rn []) (Zff t _ hr3) rfl (WS.mk (Zd (Zt (lc (lc (lc (lc Zo))))) Zb) Zc)) ?_
 refine st ?_
 refine nw ?_
 refine Zi hF (fun hc4 hF => ?_) (fun hc4 hF => ?_)
 ·refine AWP.seq ?_
  refine ns ?_
  obtain rfl := Zg hF
  refine ns ?_
  refine Exists.intro [] ?_
  refine st ?_
  exact wx (WS.mk (Zd ZjT Zb) Zc)
 ·refine nw ?_
  refine AWP.seq ?_
  obtain ⟨r5, hr5, hF⟩ := bind_some hF
  refine ns ?_
  refine e3 ?_
  refine st ?_
  refine cm (Zj.weak (rn []) (Zkz ([] : List ByteArray) ([] : List ByteArray) t _ hr5) rfl (WS.mk (Zd ZjT (Zd (Zr WE.nil) (Zd (Zt (lc (lc (lc (lc Zo))))) Zb))) Zc)) ?_
  refine st ?_
  obtain rfl := Zg hF
  refine ns ?_
  refine Exists.intro [] ?_
  refine st ?_
  exact Exists.intro (rn [(7, 0)]) (WS.mk (Zd (Zal rfl (WE.refl _)) Zb) Zc)

def ZaF (v : ByteArray) (r1 : ((List ByteArray))) (Zol : Nat) (s : Zu) (ZgW : (List ByteArray)) : Option (Bool) :=
 (match ZgW with
 | x26 :: ZCQ =>
 if (x26.toList == v.toList) = true then
 some true
 else
 ZeP s.fat 0 x26 >>= fun r31 =>
 (if r31.2 = true then (ixI s.flist r31.1) >>= fun x32 =>
 Ze1 x32.fType >>= fun r33 =>
 Zat r33 v >>= fun r34 =>
 some r34 else some false) >>= fun c35 =>
 if c35 = true then
 some true
 else
 ZaF v r1 (Zol + 1) s ZCQ
 | [] =>
 some false)
 partial_fixpoint
def ZaF.M (v : ByteArray) (r1 : ((List ByteArray))) (Zol : Nat) (s : Zu) (ZgW : (List ByteArray)) (r : Bool) : Prop :=
 ∀ ZoM : List ByteArray, r1 = ZoM ++ ZgW → Zol = ZoM.length → r1.length ≤ maxLen → AWL Tryz.prog 45 (Code.sub (Zq Tryz.f80) [1, 0, 1, 0, 0]) (Code.cont Tryz.prog 45 (Zq Tryz.f80) [1, 0, 1, 0] (ZbW tab Tryz.f80.results (ZbY (.c none (.v (.bool r))) [(1000, [(none, .rs 1001 s.flist.length), (none, .rf 1002)]), (1001, [(none, .ob 90 (s.flist.map Ze.cells))]), (1002, [(none, .ob 109 (s.fat.map (Zeb c_S Zcv)))])]))) ⟨[(0, .ptr 1000 0), (1, .c none (.v (.string v))), (12, .c (some (12, 9)) (.sl (r1.map c_S))), (13, .c none (.v (.int .i64 ((r1.length : Nat) : Int)))), (14, .c none (.v (.int .i64 ((Zol : Nat) : Int))))], [(1000, [(none, .rs 1001 s.flist.length), (none, .rf 1002)]), (1001, [(none, .ob 90 (s.flist.map Ze.cells))]), (1002, [(none, .ob 109 (s.fat.map (Zeb c_S Zcv)))])]⟩
theorem Zj3 (v : ByteArray) (r1 : ((List ByteArray))) (Zol : Nat) (s : Zu) (ZgW : (List ByteArray)) : ∀ r, ZaF v r1 Zol s ZgW = some r → ZaF.M v r1 Zol s ZgW r := by
 refine ZaF.partial_correctness v r1 s (fun Zol ZgW r => ZaF.M v r1 Zol s ZgW r) ?_ Zol ZgW
 intro unify_solver_occurs_l1' Zf3 Zol ZgW r hF
 have ZjX := fun (_v : ByteArray) (_r1 : ((List ByteArray))) (Zol : Nat) (_s : Zu) (ZgW : (List ByteArray)) => Zf3 Zol ZgW
 clear Zf3
 unfold ZaF.M
 intro ZoM Zw1 Zw6 hlen2
 refine AWL.step ?_
 refine AWP.seq ?_
 refine ns ?_
 refine AWP.seq ?_
 refine nw ?_
 refine ZN Zw1 Zw6 (fun x26 ZCQ ZEd ZHq ZIE => ?_) (fun ZEd => ?_)
 ·subst ZEd
  refine nw ?_
  refine AWP.seq ?_
  refine AWP.block ?_
  refine AWP.seq ?_
  refine nn ?_
  refine sr (Zab (f := c_S) rfl ZHq) ?_
  refine st ?_
  refine AWP.seq ?_
  refine AWP.seq ?_
  refine ns ?_
  refine nw ?_
  refine Zi hF (fun Zpx hF => ?_) (fun Zpx hF => ?_)
  ·refine AWP.seq ?_
   refine ns ?_
   obtain rfl := Zg hF
   refine ns ?_
   refine Exists.intro [(1000, 1000), (1001, 1001), (1002, 1002)] ?_
   refine st ?_
   exact wx (WS.mk (tc Zb) (Zf rfl (Ze3 (Zaf (by first | exact rfl | simp only [List.length_set])) (cc Zh)) (Zf rfl (cc Zh) (Zf rfl (cc Zh) Zc))))
  ·refine nw ?_
   refine AWP.seq ?_
   obtain ⟨r31, ZDC, hF⟩ := bind_some hF
   refine ns ?_
   refine ZhE (m := s.fat) (k := x26) ZhN (ev := Zcv) ZDC rfl (fun x => ZmL x) rfl rfl (lc Zo) ?_
   refine st ?_
   refine AWP.seq ?_
   obtain ⟨c35, Znz, hF⟩ := bind_some hF
   refine AWP.cutN (fun T => ∃ r, WS r T ⟨[(0, .ptr 1000 0), (1, .c none (.v (.string v))), (12, .c (some (12, 9)) (.sl (r1.map c_S))), (13, .c none (.v (.int .i64 ((r1.length : Nat) : Int)))), (14, .c none (.v (.int .i64 ((Zol : Nat) : Int)))), (43, .c none (.v (.bool c35)))], [(1000, [(none, .rs 1001 s.flist.length), (none, .rf 1002)]), (1001, [(none, .ob 90 (s.flist.map Ze.cells))]), (1002, [(none, .ob 109 (s.fat.map (Zeb c_S Zcv)))])]⟩) ?_ (fun T hw => ?_)
   ·refine ns ?_
    refine Zm true (fun ZkF => ?_) (fun ZkF => ?_)
    ·have Znz := ift ZkF Znz
     obtain ⟨x32, ZFi, ZFx, Znz⟩ := ZcL Znz
     obtain ⟨r33, ZHu, Znz⟩ := bind_some Znz
     obtain ⟨r34, ZDj, Znz⟩ := bind_some Znz
     (conv => whnf)
     refine st ?_
     refine And.intro (ZpL ZFi ZFx) ?_
     refine st ?_
     refine sr (ZbX (f := Ze.cells) (Ze.cells_eq x32) ZFx) ?_
     refine st ?_
     refine e3 ?_
     refine st ?_
     refine cm (Zj.weak (rn []) (ZnW x32.fType _ ZHu) rfl (WS.mk (Zd (Zt (lc (lc (lc (lc Zo))))) Zb) Zc)) ?_
     refine st ?_
     refine Exists.intro [40] (Exists.intro [] (Exists.intro [] ?_))
     refine st ?_
     refine cm (Zj.weak (rn []) (ZeK r33 v _ ZDj) rfl (WS.mk (tc (tc Zb)) Zc)) ?_
     refine st ?_
     obtain rfl := Zg Znz
     refine st ?_
     exact Exists.intro (rn [(12, 12)]) (WS.mk (tp (tc (Zd (Zal rfl (WE.refl _)) (tc (tc (Zd (Zr (web ZkF)) Zb)))))) (Zf rfl (Ze3 (Zaf (by first | exact rfl | simp only [List.length_set])) (cc Zh)) (Zf rfl (cc Zh) (Zf rfl (cc Zh) Zc))))
    ·have Znz := ife ZkF Znz
     (conv => whnf)
     obtain rfl := Zg Znz
     refine st ?_
     exact Exists.intro (rn [(12, 12)]) (WS.mk (tp (tc (Zd (Zal rfl (WE.refl _)) (tc (tc (Zd (Zr (web ZkF)) Zb)))))) (Zf rfl (Ze3 (Zaf (by first | exact rfl | simp only [List.length_set])) (cc Zh)) (Zf rfl (cc Zh) (Zf rfl (cc Zh) Zc))))
   obtain ⟨r0, hw⟩ := hw
   (conv => whnf)
   refine AWP.weak r0 hw ?_
   refine nw ?_
   refine Zi hF (fun ZpN hF => ?_) (fun ZpN hF => ?_)
   ·refine AWP.seq ?_
    refine ns ?_
    obtain rfl := Zg hF
    refine ns ?_
    refine Exists.intro [(1000, 1000), (1001, 1001), (1002, 1002)] ?_
    refine st ?_
    exact wx (WS.mk (tc Zb) (Zf rfl (Ze3 (Zaf (by first | exact rfl | simp only [List.length_set])) (cc Zh)) (Zf rfl (cc Zh) (Zf rfl (cc Zh) Zc))))
   ·refine nw ?_
    refine ns ?_
    refine AWL.weak (rn [(12, 12)]) ?_ (ZjX v r1 (Zol + 1) s ZCQ _ hF (ZoM ++ [x26]) (by rw [Zw1]; simp) (by rw [Zw6]; simp) hlen2)
    exact (WS.mk (tp (tc (Zd (Zal rfl (WE.refl _)) (tc (Zd (Zr (Zdf (ZV hlen2 ZIE))) Zb))))) (Zf rfl (Ze3 (Zaf (by first | exact rfl | simp only [List.length_set])) (cc Zh)) (Zf rfl (cc Zh) (Zf rfl (cc Zh) Zc))))
 ·subst ZEd
  refine nw ?_
  refine AWP.seq ?_
  refine ns ?_
  obtain rfl := Zg hF
  refine ns ?_
  refine Exists.intro [(1000, 1000), (1001, 1001), (1002, 1002)] ?_
  refine st ?_
  exact wx (WS.mk (tc Zb) (Zf rfl (Ze3 (Zaf (by first | exact rfl | simp only [List.length_set])) (cc Zh)) (Zf rfl (cc Zh) (Zf rfl (cc Zh) Zc))))

def ZcD (s : Zu) (v : ByteArray) (t : Za) : Option (Bool) :=
 Ze1 t >>= fun r1 =>
 ZaF v r1 0 s r1
def ZcD.M (s : Zu) (v : ByteArray) (t : Za) (r : Bool) : Prop :=
 Zj Tryz.prog 80 [.ptr 1000 0, .c none (.v (.string v)), .agg [.v (.int .i64 t.fOp), .v (.string t.fName), .sl (t.fBound.fArgs.map Zk.cells), .sl (t.fKids.map Za.cells)]] [(1000, [(none, .rs 1001 s.flist.length), (none, .rf 1002)]), (1001, [(none, .ob 90 (s.flist.map Ze.cells))]), (1002, [(none, .ob 109 (s.fat.map (Zeb c_S Zcv)))])] (fun d b => d = .c none (.v (.bool r)) ∧ b = [(1000, [(none, .rs 1001 s.flist.length), (none, .rf 1002)]), (1001, [(none, .ob 90 (s.flist.map Ze.cells))]), (1002, [(none, .ob 109 (s.fat.map (Zeb c_S Zcv)))])])
theorem Zlj (s : Zu) (v : ByteArray) (t : Za) (r : Bool) (hF : ZcD s v t = some r) : ZcD.M s v t r := by
 unfold ZcD at hF
 unfold ZcD.M
 refine en Tryz.func80 ?_
 refine AWP.seq ?_
 refine ns ?_
 refine AWP.seq ?_
 refine AWP.seq ?_
 obtain ⟨r1, hr1, hF⟩ := bind_some hF
 refine ns ?_
 refine e3 ?_
 refine st ?_
 refine cm (Zj.weak (rn []) (ZnW t _ hr1) rfl (WS.mk (Zd (Zt (lc (lc (lc (lc Zo))))) Zb) Zc)) ?_
 refine st ?_
 intro hlen2
 (try rw [List.length_map] at hlen2)
 (try rw [List.length_map])
 refine st ?_
 refine AWP.block ?_
 refine AWP.loop ?_
 refine AWL.weak (rn [(12, 12)]) ?_ (Zj3 v r1 0 s r1 _ hF ([]) rfl rfl hlen2)
 exact (WS.mk (tp (tc (Zd (Zal rfl (WE.refl _)) (tc (tc Zb))))) (Zf rfl (Ze3 (Zaf (by first | exact rfl | simp only [List.length_set])) (cc Zh)) (Zf rfl (cc Zh) (Zf rfl (cc Zh) Zc))))

mutual
def Z2 (s : (List Ze)) (name_ : ByteArray) (t : Za) : Option (Bool) :=
 if (t.fOp == 1) = true then
 Zb6 s t.fName >>= fun r15 =>
 if (decide (r15 ≥ 0)) = true then
 (ixI s r15) >>= fun x17 =>
 Z2 ([] : List Ze) name_ x17.fType >>= fun r18 =>
 some r18
 else
 some (t.fName.toList == name_.toList)
 else
 ZJ s name_ 0 t t.fKids
 partial_fixpoint
def ZJ (s : (List Ze)) (name_ : ByteArray) (i_8 : Nat) (t : Za) (ZdG : (List Za)) : Option (Bool) :=
 (match ZdG with
 | x36 :: ZB8 =>
 Z2 s name_ x36 >>= fun r39 =>
 if r39 = true then
 some true
 else
 ZJ s name_ (i_8 + 1) t ZB8
 | [] =>
 some false)
 partial_fixpoint
end
def Z2.M (s : (List Ze)) (name_ : ByteArray) (t : Za) (r : Bool) : Prop :=
 Zj Tryz.prog 55 [.c none (.sl (s.map Ze.cells)), .c none (.v (.string name_)), .agg [.v (.int .i64 t.fOp), .v (.string t.fName), .sl (t.fBound.fArgs.map Zk.cells), .sl (t.fKids.map Za.cells)]] [] (fun d b => d = .c none (.v (.bool r)) ∧ b = [])
def ZJ.M (s : (List Ze)) (name_ : ByteArray) (i_8 : Nat) (t : Za) (ZdG : (List Za)) (r : Bool) : Prop :=
 ∀ Zi6 : List Za, t.fKids = Zi6 ++ ZdG → i_8 = Zi6.length → AWL Tryz.prog 44 (Code.sub (Zq Tryz.f55) [1, 1, 0, 1, 0, 0]) (Code.cont Tryz.prog 44 (Zq Tryz.f55) [1, 1, 0, 1, 0] (ZbW tab Tryz.f55.results (ZbY (.c none (.v (.bool r))) []))) ⟨[(0, .c none (.sl (s.map Ze.cells))), (1, .c none (.v (.string name_))), (5, .ptr 5 0), (8, .c none (.v (.int .i64 ((i_8 : Nat) : Int))))], [(5, [(none, .v (.int .i64 t.fOp)), (none, .v (.string t.fName)), (none, .sl (t.fBound.fArgs.map Zk.cells)), (none, .sl (t.fKids.map Za.cells))])]⟩
theorem ZhY (name_ : ByteArray) : (∀ (s : (List Ze)) (t : Za), ∀ r, Z2 s name_ t = some r → Z2.M s name_ t r) ∧ (∀ (s : (List Ze)) (i_8 : Nat) (t : Za) (ZdG : (List Za)), ∀ r, ZJ s name_ i_8 t ZdG = some r → ZJ.M s name_ i_8 t ZdG r) := by
 refine Z2.mutual_partial_correctness name_ (fun s t r => Z2.M s name_ t r) (fun s i_8 t ZdG r => ZJ.M s name_ i_8 t ZdG r) ?_ ?_
 ·intro lazycref18_occurs' lazycref18_occurs_l1' ZdP Zdn s t r hF
  have ZfS := fun (s : (List Ze)) (_name_ : ByteArray) (t : Za) => ZdP s t
  clear ZdP
  have Zfe := fun (s : (List Ze)) (_name_ : ByteArray) (i_8 : Nat) (t : Za) (ZdG : (List Za)) => Zdn s i_8 t ZdG
  clear Zdn
  unfold Z2.M
  refine en Tryz.func55 ?_
  refine AWP.seq ?_
  refine ns ?_
  refine AWP.seq ?_
  refine AWP.seq ?_
  refine ns ?_
  refine nw ?_
  refine Zi hF (fun Zdt hF => ?_) (fun Zdt hF => ?_)
  ·refine AWP.seq ?_
   refine AWP.seq ?_
   obtain ⟨r15, Zwq, hF⟩ := bind_some hF
   refine ns ?_
   refine e3 ?_
   refine st ?_
   refine cm (Zj.weak (rn []) (ZjQ s t.fName _ Zwq) rfl (WS.mk (tc (tc Zb)) Zc)) ?_
   refine st ?_
   refine AWP.seq ?_
   refine ns ?_
   refine nw ?_
   refine Zi hF (fun Zgv hF => ?_) (fun Zgv hF => ?_)
   ·refine AWP.seq ?_
    obtain ⟨x17, hx170, ZHS, hF⟩ := ZcL hF
    obtain ⟨r18, ZDh, hF⟩ := bind_some hF
    refine nn ?_
    refine sr (ZbX (f := Ze.cells) (Ze.cells_eq x17) ZHS) ?_
    refine st ?_
    refine e3 ?_
    refine st ?_
    refine cm (Zj.weak (rn []) (ZfS ([] : List Ze) name_ x17.fType _ ZDh) rfl (WS.mk (Zd (Zr WE.nil) (tc (Zd (Zt (lc (lc (lc (lc Zo))))) Zb))) Zc)) ?_
    refine st ?_
    obtain rfl := Zg hF
    refine ns ?_
    refine Exists.intro [] ?_
    refine st ?_
    exact wx (WS.mk (tc Zb) Zc)
   ·refine nw ?_
    refine AWP.seq ?_
    refine ns ?_
    obtain rfl := Zg hF
    refine ns ?_
    refine Exists.intro [] ?_
    refine st ?_
    exact wx (WS.mk (tc Zb) Zc)
  ·refine nw ?_
   refine AWP.seq ?_
   refine AWP.seq ?_
   refine ns ?_
   refine AWP.block ?_
   refine AWP.loop ?_
   refine AWL.weak (rn []) ?_ (Zfe s name_ 0 t t.fKids _ hF ([]) rfl rfl)
   exact (WS.mk (tc (tc (tp (tc Zb)))) (Zf rfl (cc (cc (cc (cc Zh)))) Zc))
 ·intro lazycref18_occurs' lazycref18_occurs_l1' ZdP Zdn s i_8 t ZdG r hF
  have ZfS := fun (s : (List Ze)) (_name_ : ByteArray) (t : Za) => ZdP s t
  clear ZdP
  have Zfe := fun (s : (List Ze)) (_name_ : ByteArray) (i_8 : Nat) (t : Za) (ZdG : (List Za)) => Zdn s i_8 t ZdG
  clear Zdn
  unfold ZJ.M
  intro Zi6 ZrO ZrN
  refine AWL.step ?_
  refine AWP.seq ?_
  refine AWP.seq ?_
  refine ns ?_
  intro hlen35
  (try rw [List.length_map] at hlen35)
  (try rw [List.length_map])
  refine st ?_
  refine nw ?_
  refine ZN ZrO ZrN (fun x36 ZB8 ZDO ZHG ZIz => ?_) (fun ZDO => ?_)
  ·subst ZDO
   refine nw ?_
   refine AWP.seq ?_
   refine AWP.block ?_
   refine AWP.seq ?_
   obtain ⟨r39, ZDa, hF⟩ := bind_some hF
   refine nn ?_
   refine sr (Zab (f := Za.cells) (Za.cells_eq x36) ZHG) ?_
   refine st ?_
   refine e3 ?_
   refine st ?_
   refine cm (Zj.weak (rn []) (ZfS s name_ x36 _ ZDa) rfl (WS.mk (tc (tc (Zd (Zt (lc (lc (lc (lc Zo))))) Zb))) Zc)) ?_
   refine st ?_
   refine nw ?_
   refine Zi hF (fun Zoj hF => ?_) (fun Zoj hF => ?_)
   ·refine AWP.seq ?_
    refine ns ?_
    obtain rfl := Zg hF
    refine ns ?_
    refine Exists.intro [] ?_
    refine st ?_
    exact wx (WS.mk (tc Zb) Zc)
   ·refine nw ?_
    refine ns ?_
    refine AWL.weak (rn []) ?_ (Zfe s name_ (i_8 + 1) t ZB8 _ hF (Zi6 ++ [x36]) (by rw [ZrO]; simp) (by rw [ZrN]; simp))
    exact (WS.mk (tc (tc (tp (Zd (Zr (Zdf (ZV hlen35 ZIz))) Zb)))) (Zf rfl (cc (cc (cc (cc Zh)))) Zc))
  ·subst ZDO
   refine nw ?_
   refine AWP.seq ?_
   refine ns ?_
   obtain rfl := Zg hF
   refine ns ?_
   refine Exists.intro [] ?_
   refine st ?_
   exact wx (WS.mk (tc Zb) Zc)
theorem ZmH : ∀ (s : (List Ze)) (name_ : ByteArray) (t : Za), ∀ r, Z2 s name_ t = some r → Z2.M s name_ t r := fun s name_ t => (ZhY name_).1 s t
theorem lazycref18_occurs_l1_ok : ∀ (s : (List Ze)) (name_ : ByteArray) (i_8 : Nat) (t : Za) (ZdG : (List Za)), ∀ r, ZJ s name_ i_8 t ZdG = some r → ZJ.M s name_ i_8 t ZdG r := fun s name_ i_8 t ZdG => (ZhY name_).2 s i_8 t ZdG

def ZbS (l : (List ByteArray)) (s : ByteArray) (i_5 : Nat) (Zaw : (List ByteArray)) : Option (Bool) :=
 (match Zaw with
 | x16 :: ZjV =>
 if (x16.toList == s.toList) = true then
 some true
 else
 ZbS l s (i_5 + 1) ZjV
 | [] =>
 some false)
 partial_fixpoint
def ZbS.M (l : (List ByteArray)) (s : ByteArray) (i_5 : Nat) (Zaw : (List ByteArray)) (r : Bool) : Prop :=
 ∀ Zdy : List ByteArray, l = Zdy ++ Zaw → i_5 = Zdy.length → AWL Tryz.prog 18 (Code.sub (Zq Tryz.f60) [1, 0, 1, 0, 0]) (Code.cont Tryz.prog 18 (Zq Tryz.f60) [1, 0, 1, 0] (ZbW tab Tryz.f60.results (ZbY (.c none (.v (.bool r))) []))) ⟨[(0, .c none (.sl (l.map c_S))), (1, .c none (.v (.string s))), (5, .c none (.v (.int .i64 ((i_5 : Nat) : Int))))], []⟩
theorem Zmz (l : (List ByteArray)) (s : ByteArray) (i_5 : Nat) (Zaw : (List ByteArray)) : ∀ r, ZbS l s i_5 Zaw = some r → ZbS.M l s i_5 Zaw r := by
 refine ZbS.partial_correctness l s (fun i_5 Zaw r => ZbS.M l s i_5 Zaw r) ?_ i_5 Zaw
 intro lazycref01_Has_l1' ZhX i_5 Zaw r hF
 have ZmP := fun (_l : (List ByteArray)) (_s : ByteArray) (i_5 : Nat) (Zaw : (List ByteArray)) => ZhX i_5 Zaw
 clear ZhX
 unfold ZbS.M
 intro Zdy ZhF Zhp
 refine AWL.step ?_
 refine AWP.seq ?_
 refine AWP.seq ?_
 refine ns ?_
 intro hlen15
 (try rw [List.length_map] at hlen15)
 (try rw [List.length_map])
 refine st ?_
 refine nw ?_
 refine ZN ZhF Zhp (fun x16 ZjV ZjR Zrh ZqC => ?_) (fun ZjR => ?_)
 ·subst ZjR
  refine nw ?_
  refine AWP.seq ?_
  refine AWP.block ?_
  refine AWP.seq ?_
  refine nn ?_
  refine sr (Zab (f := c_S) rfl Zrh) ?_
  refine st ?_
  refine nw ?_
  refine Zi hF (fun Zt4 hF => ?_) (fun Zt4 hF => ?_)
  ·refine AWP.seq ?_
   refine ns ?_
   obtain rfl := Zg hF
   refine ns ?_
   refine Exists.intro [] ?_
   refine st ?_
   exact wx (WS.mk (tc Zb) Zc)
  ·refine nw ?_
   refine ns ?_
   refine AWL.weak (rn []) ?_ (ZmP l s (i_5 + 1) ZjV _ hF (Zdy ++ [x16]) (by rw [ZhF]; simp) (by rw [Zhp]; simp))
   exact (WS.mk (tc (tc (Zd (Zr (Zdf (ZV hlen15 ZqC))) Zb))) Zc)
 ·subst ZjR
  refine nw ?_
  refine AWP.seq ?_
  refine ns ?_
  obtain rfl := Zg hF
  refine ns ?_
  refine Exists.intro [] ?_
  refine st ?_
  exact wx (WS.mk (tc Zb) Zc)

def Zbx (l : (List ByteArray)) (s : ByteArray) : Option (Bool) :=
 ZbS l s 0 l
def Zbx.M (l : (List ByteArray)) (s : ByteArray) (r : Bool) : Prop :=
 Zj Tryz.prog 60 [.c none (.sl (l.map c_S)), .c none (.v (.string s))] [] (fun d b => d = .c none (.v (.bool r)) ∧ b = [])
theorem ZeV (l : (List ByteArray)) (s : ByteArray) (r : Bool) (hF : Zbx l s = some r) : Zbx.M l s r := by
 unfold Zbx at hF
 unfold Zbx.M
 refine en Tryz.func60 ?_
 refine AWP.seq ?_
 refine ns ?_
 refine AWP.seq ?_
 refine AWP.seq ?_
 refine ns ?_
 refine AWP.block ?_
 refine AWP.loop ?_
 refine AWL.weak (rn []) ?_ (Zmz l s 0 l _ hF ([]) rfl rfl)
 exact (WS.mk (tc (tc (tc Zb))) Zc)

def ZcT (l : (List ByteArray)) (s : ByteArray) : Option ((List ByteArray)) :=
 Zbx l s >>= fun r3 =>
 if r3 = true then
 some l
 else
 Z4 ((l.length + ([s]).length) * 16 ≤ 140737488355328) >>= fun _ =>
 some (l ++ ([s]))
def ZcT.M (l : (List ByteArray)) (s : ByteArray) (r : (List ByteArray)) : Prop :=
 Zj Tryz.prog 67 [.c (some (0, 9)) (.sl (l.map c_S)), .c none (.v (.string s))] [] (fun d b => d = .c (some (0, 9)) (.sl (r.map c_S)) ∧ b = [])
theorem Zml (l : (List ByteArray)) (s : ByteArray) (r : (List ByteArray)) (hF : ZcT l s = some r) : ZcT.M l s r := by
 unfold ZcT at hF
 unfold ZcT.M
 refine en Tryz.func67 ?_
 refine AWP.seq ?_
 refine ns ?_
 refine AWP.seq ?_
 refine AWP.seq ?_
 obtain ⟨r3, hr3, hF⟩ := bind_some hF
 refine ns ?_
 refine Exists.intro [0] (Exists.intro [] (Exists.intro [] ?_))
 refine st ?_
 refine cm (Zj.weak (rn []) (ZeV l s _ hr3) rfl (WS.mk (tc (tc Zb)) Zc)) ?_
 refine st ?_
 refine nw ?_
 refine Zi hF (fun hc4 hF => ?_) (fun hc4 hF => ?_)
 ·refine AWP.seq ?_
  refine ns ?_
  obtain rfl := Zg hF
  refine ns ?_
  refine Exists.intro [] ?_
  refine st ?_
  exact Exists.intro (rn [(0, 0)]) (WS.mk (Zd (Zal rfl (WE.refl _)) Zb) Zc)
 ·refine nw ?_
  refine AWP.seq ?_
  obtain ⟨hg5, hF⟩ := Zy hF
  refine ns ?_
  refine Exists.intro _ (And.intro (Zbs (f := c_S) (lc Zo) (ZY (f := c_S))) ?_)
  refine sa (fun l => ZbO l (fun x => ZfK x)) hg5 ?_
  refine Exists.intro _ (And.intro (WE.refl _) ?_)
  rw [← List.map_append]
  refine st ?_
  obtain rfl := Zg hF
  refine ns ?_
  refine Exists.intro [] ?_
  refine st ?_
  exact Exists.intro (rn [(12, 0)]) (WS.mk (Zd (Zal rfl (WE.refl _)) Zb) Zc)

mutual
def Zak (out : (List ByteArray)) (Z3 : (List ByteArray)) (t : Za) : Option ((List ByteArray)) :=
 (if (t.fOp == 1) = true then Zbx Z3 t.fName >>= fun r5 =>
 some (!r5) else some false) >>= fun c6 =>
 if c6 = true then
 ZcT out t.fName >>= fun r9 =>
 some r9
 else
 if (t.fOp == 4) = true then
 Z4 ((0 + Z3.length) * 16 ≤ 140737488355328) >>= fun _ =>
 Z4 ((Z3.length + ([t.fName]).length) * 16 ≤ 140737488355328) >>= fun _ =>
 Zap out (Z3 ++ ([t.fName])) t
 else
 Zap out Z3 t
 partial_fixpoint
def Zap (out : (List ByteArray)) (ZA : (List ByteArray)) (t : Za) : Option ((List ByteArray)) :=
 Z7 out ZA 0 t t.fKids
 partial_fixpoint
def Z7 (ZlT : (List ByteArray)) (ZA : (List ByteArray)) (i_8 : Nat) (t : Za) (ZdG : (List Za)) : Option ((List ByteArray)) :=
 (match ZdG with
 | x28 :: ZCq =>
 Zak ZlT ZA x28 >>= fun r31 =>
 Z7 r31 ZA (i_8 + 1) t ZCq
 | [] =>
 some ZlT)
 partial_fixpoint
end
def Zak.M (out : (List ByteArray)) (Z3 : (List ByteArray)) (t : Za) (r : (List ByteArray)) : Prop :=
 Zj Tryz.prog 41 [.c (some (0, 9)) (.sl (out.map c_S)), .c none (.sl (Z3.map c_S)), .agg [.v (.int .i64 t.fOp), .v (.string t.fName), .sl (t.fBound.fArgs.map Zk.cells), .sl (t.fKids.map Za.cells)]] [] (fun d b => d = .c (some (0, 9)) (.sl (r.map c_S)) ∧ b = [])
def Zap.M (out : (List ByteArray)) (ZA : (List ByteArray)) (t : Za) (r : (List ByteArray)) : Prop :=
 AWP Tryz.prog 51 (Code.sub (Zq Tryz.f41) [1, 1, 1]) (Code.cont Tryz.prog 51 (Zq Tryz.f41) [1, 1, 1] (ZbW tab Tryz.f41.results (ZbY (.c (some (0, 9)) (.sl (r.map c_S))) []))) ⟨[(0, .c (some (0, 9)) (.sl (out.map c_S))), (1, .c none (.sl (ZA.map c_S))), (5, .ptr 5 0)], [(5, [(none, .v (.int .i64 t.fOp)), (none, .v (.string t.fName)), (none, .sl (t.fBound.fArgs.map Zk.cells)), (none, .sl (t.fKids.map Za.cells))])]⟩
def Z7.M (ZlT : (List ByteArray)) (ZA : (List ByteArray)) (i_8 : Nat) (t : Za) (ZdG : (List Za)) (r : (List ByteArray)) : Prop :=
 ∀ Zi6 : List Za, t.fKids = Zi6 ++ ZdG → i_8 = Zi6.length → AWL Tryz.prog 51 (Code.sub (Zq Tryz.f41) [1, 1, 1, 0, 1, 0, 0]) (Code.cont Tryz.prog 51 (Zq Tryz.f41) [1, 1, 1, 0, 1, 0] (ZbW tab Tryz.f41.results (ZbY (.c (some (0, 9)) (.sl (r.map c_S))) []))) ⟨[(0, .c (some (0, 9)) (.sl (ZlT.map c_S))), (1, .c none (.sl (ZA.map c_S))), (5, .ptr 5 0), (8, .c none (.v (.int .i64 ((i_8 : Nat) : Int))))], [(5, [(none, .v (.int .i64 t.fOp)), (none, .v (.string t.fName)), (none, .sl (t.fBound.fArgs.map Zk.cells)), (none, .sl (t.fKids.map Za.cells))])]⟩
theorem Zfk : (∀ (out : (List ByteArray)) (Z3 : (List ByteArray)) (t : Za), ∀ r, Zak out Z3 t = some r → Zak.M out Z3 t r) ∧ (∀ (out : (List ByteArray)) (ZA : (List ByteArray)) (t : Za), ∀ r, Zap out ZA t = some r → Zap.M out ZA t r) ∧ (∀ (ZlT : (List ByteArray)) (ZA : (List ByteArray)) (i_8 : Nat) (t : Za) (ZdG : (List Za)), ∀ r, Z7 ZlT ZA i_8 t ZdG = some r → Z7.M ZlT ZA i_8 t ZdG r) := by
 refine Zak.mutual_partial_correctness Zak.M Zap.M Z7.M ?_ ?_ ?_
 ·intro lazycref04_Collect_k1' ZgT out Z3 t r hF
  unfold Zak.M
  refine en Tryz.func41 ?_
  refine AWP.seq ?_
  refine ns ?_
  refine AWP.seq ?_
  refine AWP.seq ?_
  obtain ⟨c6, hc6, hF⟩ := bind_some hF
  refine AWP.cutN (fun T => ∃ r, WS r T ⟨[(0, .c (some (0, 9)) (.sl (out.map c_S))), (1, .c none (.sl (Z3.map c_S))), (5, .ptr 5 0), (18, .c none (.v (.bool c6)))], [(5, [(none, .v (.int .i64 t.fOp)), (none, .v (.string t.fName)), (none, .sl (t.fBound.fArgs.map Zk.cells)), (none, .sl (t.fKids.map Za.cells))])]⟩) ?_ (fun T hw => ?_)
  ·refine ns ?_
   refine Zm true (fun hc7 => ?_) (fun hc7 => ?_)
   ·have hc6 := ift hc7 hc6
    obtain ⟨r5, hr5, hc6⟩ := bind_some hc6
    (conv => whnf)
    refine st ?_
    refine e3 ?_
    refine st ?_
    refine cm (Zj.weak (rn []) (ZeV Z3 t.fName _ hr5) rfl (WS.mk (tc (tc Zb)) Zc)) ?_
    refine st ?_
    obtain rfl := Zg hc6
    refine st ?_
    exact Exists.intro (rn [(0, 0)]) (WS.mk (Zd (Zal rfl (WE.refl _)) (tc (tp (Zd (Zr (web hc7)) Zb)))) (Zf rfl (cc (cc (cc (cc Zh)))) Zc))
   ·have hc6 := ife hc7 hc6
    (conv => whnf)
    obtain rfl := Zg hc6
    refine st ?_
    exact Exists.intro (rn [(0, 0)]) (WS.mk (Zd (Zal rfl (WE.refl _)) (tc (tp (Zd (Zr (web hc7)) Zb)))) (Zf rfl (cc (cc (cc (cc Zh)))) Zc))
  obtain ⟨r0, hw⟩ := hw
  (conv => whnf)
  refine AWP.weak r0 hw ?_
  refine nw ?_
  refine Zi hF (fun hc8 hF => ?_) (fun hc8 hF => ?_)
  ·refine AWP.seq ?_
   obtain ⟨r9, hr9, hF⟩ := bind_some hF
   refine ns ?_
   refine e3 ?_
   refine st ?_
   refine cm (Zj.weak (rn [(0, 0)]) (Zml out t.fName _ hr9) rfl (WS.mk (Zd (Zal rfl (WE.refl _)) (tc Zb)) Zc)) ?_
   refine st ?_
   obtain rfl := Zg hF
   refine ns ?_
   refine Exists.intro [] ?_
   refine st ?_
   exact Exists.intro (rn [(22, 0)]) (WS.mk (Zd (Zal rfl (WE.refl _)) Zb) Zc)
  ·refine nw ?_
   refine AWP.seq ?_
   refine AWP.seq ?_
   refine ns ?_
   refine nw ?_
   refine Zi hF (fun ZnN hF => ?_) (fun ZnN hF => ?_)
   ·refine AWP.seq ?_
    refine ns ?_
    refine AWP.seq ?_
    obtain ⟨ZIC, hF⟩ := Zy hF
    refine nn ?_
    refine sa (fun l => ZbO l (fun x => ZfK x)) ZIC ?_
    refine Exists.intro _ (And.intro (WE.refl _) ?_)
    (try rw [List.nil_append])
    refine st ?_
    refine AWP.seq ?_
    obtain ⟨ZHP, hF⟩ := Zy hF
    refine ns ?_
    refine Exists.intro _ (And.intro (Zbs (f := c_S) (lc Zo) (ZY (f := c_S))) ?_)
    refine sa (fun l => ZbO l (fun x => ZfK x)) ZHP ?_
    refine Exists.intro _ (And.intro (WE.refl _) ?_)
    rw [← List.map_append]
    refine st ?_
    refine ns ?_
    refine AWP.weak (rn [(0, 0)]) ?_ (ZgT out (Z3 ++ ([t.fName])) t _ hF)
    exact (WS.mk (Zd (Zal rfl (WE.refl _)) (tc (tp Zb))) (Zf rfl (cc (cc (cc (cc Zh)))) Zc))
   ·refine nw ?_
    refine AWP.weak (rn [(0, 0)]) ?_ (ZgT out Z3 t _ hF)
    exact (WS.mk (Zd (Zal rfl (WE.refl _)) (tc (tp Zb))) (Zf rfl (cc (cc (cc (cc Zh)))) Zc))
 ·intro lazycref04_Collect_l2' ZeX out ZA t r hF
  unfold Zap.M
  refine AWP.seq ?_
  refine AWP.seq ?_
  refine ns ?_
  refine AWP.block ?_
  refine AWP.loop ?_
  refine AWL.weak (rn [(0, 0)]) ?_ (ZeX out ZA 0 t t.fKids _ hF ([]) rfl rfl)
  exact (WS.mk (Zd (Zal rfl (WE.refl _)) (tc (tp (tc Zb)))) (Zf rfl (cc (cc (cc (cc Zh)))) Zc))
 ·intro lazycref04_Collect' lazycref04_Collect_l2' Zl9 ZeX ZlT ZA i_8 t ZdG r hF
  unfold Z7.M
  intro Zi6 ZrO ZrN
  refine AWL.step ?_
  refine AWP.seq ?_
  refine AWP.seq ?_
  refine ns ?_
  intro hlen27
  (try rw [List.length_map] at hlen27)
  (try rw [List.length_map])
  refine st ?_
  refine nw ?_
  refine ZN ZrO ZrN (fun x28 ZCq ZCV ZIc ZHZ => ?_) (fun ZCV => ?_)
  ·subst ZCV
   refine nw ?_
   refine AWP.seq ?_
   refine AWP.block ?_
   obtain ⟨r31, ZDC, hF⟩ := bind_some hF
   refine nn ?_
   refine sr (Zab (f := Za.cells) (Za.cells_eq x28) ZIc) ?_
   refine st ?_
   refine e3 ?_
   refine st ?_
   refine cm (Zj.weak (rn [(0, 0)]) (Zl9 ZlT ZA x28 _ ZDC) rfl (WS.mk (Zd (Zal rfl (WE.refl _)) (tc (Zd (Zt (lc (lc (lc (lc Zo))))) Zb))) Zc)) ?_
   refine st ?_
   refine ns ?_
   refine AWL.weak (rn [(49, 0)]) ?_ (ZeX r31 ZA (i_8 + 1) t ZCq _ hF (Zi6 ++ [x28]) (by rw [ZrO]; simp) (by rw [ZrN]; simp))
   exact (WS.mk (Zd (Zal rfl (WE.refl _)) (tc (tp (Zd (Zr (Zdf (ZV hlen27 ZHZ))) Zb)))) (Zf rfl (cc (cc (cc (cc Zh)))) Zc))
  ·subst ZCV
   refine nw ?_
   refine AWP.seq ?_
   refine ns ?_
   obtain rfl := Zg hF
   refine ns ?_
   refine Exists.intro [] ?_
   refine st ?_
   exact Exists.intro (rn [(0, 0)]) (WS.mk (Zd (Zal rfl (WE.refl _)) Zb) Zc)
theorem ZfH : ∀ (out : (List ByteArray)) (Z3 : (List ByteArray)) (t : Za), ∀ r, Zak out Z3 t = some r → Zak.M out Z3 t r := Zfk.1
theorem lazycref04_Collect_k1_ok : ∀ (out : (List ByteArray)) (ZA : (List ByteArray)) (t : Za), ∀ r, Zap out ZA t = some r → Zap.M out ZA t r := Zfk.2.1
theorem lazycref04_Collect_l2_ok : ∀ (ZlT : (List ByteArray)) (ZA : (List ByteArray)) (i_8 : Nat) (t : Za) (ZdG : (List Za)), ∀ r, Z7 ZlT ZA i_8 t ZdG = some r → Z7.M ZlT ZA i_8 t ZdG r := Zfk.2.2

def Zds (t : Za) : Option ((List ByteArray)) :=
 ZaG t >>= fun r3 =>
 if (r3 != 0) = true then
 some ([] : List ByteArray)
 else
 Zak ([] : List ByteArray) ([] : List ByteArray) t >>= fun r5 =>
 some r5
def Zds.M (t : Za) (r : (List ByteArray)) : Prop :=
 Zj Tryz.prog 19 [.agg [.v (.int .i64 t.fOp), .v (.string t.fName), .sl (t.fBound.fArgs.map Zk.cells), .sl (t.fKids.map Za.cells)]] [] (fun d b => d = .c (some (0, 9)) (.sl (r.map c_S)) ∧ b = [])
theorem Zn3 (t : Za) (r : (List ByteArray)) (hF : Zds t = some r) : Zds.M t r := by
 unfold Zds at hF
 unfold Zds.M
 refine en Tryz.func19 ?_
 refine AWP.seq ?_
 refine ns ?_
 refine AWP.seq ?_
 refine AWP.seq ?_
 obtain ⟨r3, hr3, hF⟩ := bind_some hF
 refine ns ?_
 refine e3 ?_
 refine st ?_
 refine cm (Zj.weak (rn []) (ZdI t _ hr3) rfl (WS.mk (Zd (Zt (lc (lc (lc (lc Zo))))) Zb) Zc)) ?_
 refine st ?_
 refine nw ?_
 refine Zi hF (fun hc4 hF => ?_) (fun hc4 hF => ?_)
 ·refine AWP.seq ?_
  refine ns ?_
  obtain rfl := Zg hF
  refine ns ?_
  refine Exists.intro [] ?_
  refine st ?_
  exact wx (WS.mk (Zd ZjT Zb) Zc)
 ·refine nw ?_
  refine AWP.seq ?_
  obtain ⟨r5, hr5, hF⟩ := bind_some hF
  refine ns ?_
  refine e3 ?_
  refine st ?_
  refine cm (Zj.weak (rn []) (ZfH ([] : List ByteArray) ([] : List ByteArray) t _ hr5) rfl (WS.mk (Zd ZjT (Zd (Zr WE.nil) (Zd (Zt (lc (lc (lc (lc Zo))))) Zb))) Zc)) ?_
  refine st ?_
  obtain rfl := Zg hF
  refine ns ?_
  refine Exists.intro [] ?_
  refine st ?_
  exact Exists.intro (rn [(7, 0)]) (WS.mk (Zd (Zal rfl (WE.refl _)) Zb) Zc)

mutual
def ZbV (sub : (List (ByteArray × Za))) (t : Za) : Option (Int × Int) :=
 ZeP sub (Za.mk 0 (ByteArray.mk #[]) (Zk.mk ([] : List Zk)) ([] : List Za)) t.fName >>= fun r7 =>
 if (r7.2 && (t.fOp == 1)) = true then
 ZcE r7.1 >>= fun r12 =>
 Zcg r7.1 >>= fun r13 =>
 some (r12, r13)
 else
 ZeP sub (Za.mk 0 (ByteArray.mk #[]) (Zk.mk ([] : List Zk)) ([] : List Za)) t.fName >>= fun r16 =>
 if (r16.2 && (t.fOp == 4)) = true then
 none
 else
 Z5 0 0 t 0 sub t.fKids
 partial_fixpoint
def Z5 (ZcO : Int) (ZbG : Int) (t : Za) (Zk0 : Nat) (sub : (List (ByteArray × Za))) (ZeD : (List Za)) : Option (Int × Int) :=
 (match ZeD with
 | x42 :: ZCT =>
 ZbV sub x42 >>= fun r45 =>
 Z5 (IntKind.i64.wrap (ZcO + r45.1)) (if r45.2 > ZbG then r45.2 else ZbG) t (Zk0 + 1) sub ZCT
 | [] =>
 some (IntKind.i64.wrap (ZcO + 1), IntKind.i64.wrap (ZbG + 1)))
 partial_fixpoint
end
def ZbV.M (sub : (List (ByteArray × Za))) (t : Za) (r : Int × Int) : Prop :=
 Zj Tryz.prog 69 [.c none (.rf 1000), .agg [.v (.int .i64 t.fOp), .v (.string t.fName), .sl (t.fBound.fArgs.map Zk.cells), .sl (t.fKids.map Za.cells)]] [(1000, [(none, .ob 183 (sub.map (Zeb c_S Za.cells)))])] (fun d b => d = .tup [.c (.v (.int .i64 r.1)), .c (.v (.int .i64 r.2))] ∧ b = [(1000, [(none, .ob 183 (sub.map (Zeb c_S Za.cells)))])])
def Z5.M (ZcO : Int) (ZbG : Int) (t : Za) (Zk0 : Nat) (sub : (List (ByteArray × Za))) (ZeD : (List Za)) (r : Int × Int) : Prop :=
 ∀ Zou : List Za, t.fKids = Zou ++ ZeD → Zk0 = Zou.length → t.fKids.length ≤ maxLen → AWL Tryz.prog 72 (Code.sub (Zq Tryz.f69) [1, 1, 1, 0, 1, 0, 0]) (Code.cont Tryz.prog 72 (Zq Tryz.f69) [1, 1, 1, 0, 1, 0] (ZbW tab Tryz.f69.results (ZbY (.tup [.c (.v (.int .i64 r.1)), .c (.v (.int .i64 r.2))]) [(1000, [(none, .ob 183 (sub.map (Zeb c_S Za.cells)))])]))) ⟨[(0, .c none (.rf 1000)), (4, .c none (.v (.int .i64 ZcO))), (5, .c none (.v (.int .i64 ZbG))), (49, .c none (.sl (t.fKids.map Za.cells))), (50, .c none (.v (.int .i64 ((t.fKids.length : Nat) : Int)))), (51, .c none (.v (.int .i64 ((Zk0 : Nat) : Int))))], [(1000, [(none, .ob 183 (sub.map (Zeb c_S Za.cells)))])]⟩
theorem Zkc (sub : (List (ByteArray × Za))) : (∀ (t : Za), ∀ r, ZbV sub t = some r → ZbV.M sub t r) ∧ (∀ (ZcO : Int) (ZbG : Int) (t : Za) (Zk0 : Nat) (ZeD : (List Za)), ∀ r, Z5 ZcO ZbG t Zk0 sub ZeD = some r → Z5.M ZcO ZbG t Zk0 sub ZeD r) := by
 refine ZbV.mutual_partial_correctness sub (fun t r => ZbV.M sub t r) (fun ZcO ZbG t Zk0 ZeD r => Z5.M ZcO ZbG t Zk0 sub ZeD r) ?_ ?_
 ·intro types_measure_l1' Zd0 t r hF
  have Zgu := fun (ZcO : Int) (ZbG : Int) (t : Za) (Zk0 : Nat) (_sub : (List (ByteArray × Za))) (ZeD : (List Za)) => Zd0 ZcO ZbG t Zk0 ZeD
  clear Zd0
  unfold ZbV.M
  refine en Tryz.func69 ?_
  refine AWP.seq ?_
  refine ns ?_
  refine AWP.seq ?_
  refine AWP.seq ?_
  obtain ⟨r7, hr7, hF⟩ := bind_some hF
  refine ns ?_
  refine ZhE (m := sub) (k := t.fName) ZhN (ev := Za.cells) hr7 (Za.cells_eq r7.1) (fun x => Za.cells_len x) rfl rfl (ZdA (Za.cells_eq (Za.mk 0 (ByteArray.mk #[]) (Zk.mk ([] : List Zk)) ([] : List Za))) (lc (lc (ZaR WE.nil (ZaR WE.nil Zo))))) ?_
  refine st ?_
  refine AWP.seq ?_
  refine AWP.cutN (fun T => ∃ r, WS r T ⟨[(0, .c none (.rf 1000)), (3, .ptr 3 0), (4, .c none (.v (.int .i64 0))), (5, .c none (.v (.int .i64 0))), (6, .ptr 6 0), (26, .c none (.v (.bool (r7.2 && (t.fOp == 1)))))], [(3, [(none, .v (.int .i64 t.fOp)), (none, .v (.string t.fName)), (none, .sl (t.fBound.fArgs.map Zk.cells)), (none, .sl (t.fKids.map Za.cells))]), (6, [(none, .v (.int .i64 r7.1.fOp)), (none, .v (.string r7.1.fName)), (none, .sl (r7.1.fBound.fArgs.map Zk.cells)), (none, .sl (r7.1.fKids.map Za.cells))]), (1000, [(none, .ob 183 (sub.map (Zeb c_S Za.cells)))])]⟩) ?_ (fun T hw => ?_)
  ·refine ns ?_
   refine Zm true (fun hc8 => ?_) (fun hc8 => ?_)
   ·(conv => whnf)
    refine st ?_
    exact wx (WS.mk (tc (tp (tc (tc (tp (Zd (Zr (web hc8)) Zb)))))) (Zf rfl (cc (cc (cc (cc Zh)))) (Zf rfl (cc (cc (cc (cc Zh)))) (Zf rfl (cc Zh) Zc))))
   ·(conv => whnf)
    refine st ?_
    exact wx (WS.mk (tc (tp (tc (tc (tp (Zd (Zr (web hc8)) Zb)))))) (Zf rfl (cc (cc (cc (cc Zh)))) (Zf rfl (cc (cc (cc (cc Zh)))) (Zf rfl (cc Zh) Zc))))
  obtain ⟨r0, hw⟩ := hw
  (conv => whnf)
  refine AWP.weak r0 hw ?_
  refine nw ?_
  refine Zi hF (fun hc9 hF => ?_) (fun hc9 hF => ?_)
  ·refine AWP.seq ?_
   obtain ⟨r12, ZyA, hF⟩ := bind_some hF
   obtain ⟨r13, ZHM, hF⟩ := bind_some hF
   refine nn ?_
   refine Or.inr (Exists.intro [2] (Exists.intro [[29]] (Exists.intro [6] (Exists.intro [6, 29] (Exists.intro [29] (Exists.intro [0, 1, 3, 4, 5] (And.intro (by decide +kernel) ?_)))))))
   refine dp ?_
   refine st ?_
   refine e3 ?_
   refine st ?_
   refine cm (Zj.weak (rn []) (ZnV r7.1 _ ZyA) rfl (WS.mk (Zd (Zt (lc (lc (lc (lc Zo))))) Zb) Zc)) ?_
   refine st ?_
   refine e3 ?_
   refine st ?_
   refine cm (Zj.weak (rn []) (Zm8 r7.1 _ ZHM) rfl (WS.mk (Zd (Zt (lc (lc (lc (lc Zo))))) Zb) Zc)) ?_
   refine st ?_
   obtain rfl := Zg hF
   refine ns ?_
   refine Exists.intro [(1000, 1000)] ?_
   refine st ?_
   exact wx (WS.mk (Zd (Zc9 (ZcG (WE.refl _) (ZcG (WE.refl _) Zda))) Zb) (Zf rfl (cc Zh) Zc))
  ·refine nw ?_
   refine AWP.seq ?_
   refine AWP.seq ?_
   obtain ⟨r16, Zwk, hF⟩ := bind_some hF
   refine ns ?_
   refine ZhE (m := sub) (k := t.fName) ZhN (ev := Za.cells) Zwk (Za.cells_eq r16.1) (fun x => Za.cells_len x) rfl rfl (ZdA (Za.cells_eq (Za.mk 0 (ByteArray.mk #[]) (Zk.mk ([] : List Zk)) ([] : List Za))) (lc (lc (ZaR WE.nil (ZaR WE.nil Zo))))) ?_
   refine st ?_
   refine AWP.seq ?_
   refine AWP.cutN (fun T => ∃ r, WS r T ⟨[(0, .c none (.rf 1000)), (3, .ptr 3 0), (4, .c none (.v (.int .i64 0))), (5, .c none (.v (.int .i64 0))), (43, .c none (.v (.bool (r16.2 && (t.fOp == 4)))))], [(3, [(none, .v (.int .i64 t.fOp)), (none, .v (.string t.fName)), (none, .sl (t.fBound.fArgs.map Zk.cells)), (none, .sl (t.fKids.map Za.cells))]), (1000, [(none, .ob 183 (sub.map (Zeb c_S Za.cells)))])]⟩) ?_ (fun T hw => ?_)
   ·refine ns ?_
    refine Zm true (fun ZiP => ?_) (fun ZiP => ?_)
    ·(conv => whnf)
     refine st ?_
     exact wx (WS.mk (tc (tp (tc (tc (Zd (Zr (web ZiP)) Zb))))) (Zf rfl (cc (cc (cc (cc Zh)))) (Zf rfl (cc Zh) Zc)))
    ·(conv => whnf)
     refine st ?_
     exact wx (WS.mk (tc (tp (tc (tc (Zd (Zr (web ZiP)) Zb))))) (Zf rfl (cc (cc (cc (cc Zh)))) (Zf rfl (cc Zh) Zc)))
   obtain ⟨r0, hw⟩ := hw
   (conv => whnf)
   refine AWP.weak r0 hw ?_
   refine nw ?_
   refine Zi hF (fun Zt7 hF => ?_) (fun Zt7 hF => ?_)
   ·cases hF
   ·refine nw ?_
    refine AWP.seq ?_
    refine AWP.seq ?_
    refine ns ?_
    intro hlen32
    (try rw [List.length_map] at hlen32)
    (try rw [List.length_map])
    refine st ?_
    refine AWP.block ?_
    refine AWP.loop ?_
    refine AWL.weak (rn []) ?_ (Zgu 0 0 t 0 sub t.fKids _ hF ([]) rfl rfl hlen32)
    exact (WS.mk (tc (tc (tc (tc (tc (tc Zb)))))) (Zf rfl (cc Zh) Zc))
 ·intro types_measure' types_measure_l1' Zki Zd0 ZcO ZbG t Zk0 ZeD r hF
  have ZpE := fun (_sub : (List (ByteArray × Za))) (t : Za) => Zki t
  clear Zki
  have Zgu := fun (ZcO : Int) (ZbG : Int) (t : Za) (Zk0 : Nat) (_sub : (List (ByteArray × Za))) (ZeD : (List Za)) => Zd0 ZcO ZbG t Zk0 ZeD
  clear Zd0
  unfold Z5.M
  intro Zou Zwy ZxD hlen32
  refine AWL.step ?_
  refine AWP.seq ?_
  refine ns ?_
  refine AWP.seq ?_
  refine nw ?_
  refine ZN Zwy ZxD (fun x42 ZCT ZC2 ZIL ZHa => ?_) (fun ZC2 => ?_)
  ·subst ZC2
   refine nw ?_
   refine AWP.seq ?_
   refine AWP.block ?_
   refine AWP.seq ?_
   refine nn ?_
   refine sr (Zab (f := Za.cells) (Za.cells_eq x42) ZIL) ?_
   refine st ?_
   refine AWP.seq ?_
   obtain ⟨r45, ZIf, hF⟩ := bind_some hF
   refine ns ?_
   refine Exists.intro [] (Exists.intro [(1000, 1000)] (Exists.intro [] ?_))
   refine st ?_
   refine cm (Zj.weak (rn []) (ZpE sub x42 _ ZIf) rfl (WS.mk (tc (Zd (Zt (lc (lc (lc (lc Zo))))) Zb)) (Zf rfl (cc Zh) Zc))) ?_
   refine st ?_
   refine ns ?_
   refine ns ?_
   refine AWL.weak (rn []) ?_ (Zgu (IntKind.i64.wrap (ZcO + r45.1)) (if r45.2 > ZbG then r45.2 else ZbG) t (Zk0 + 1) sub ZCT _ hF (Zou ++ [x42]) (by rw [Zwy]; simp) (by rw [ZxD]; simp) hlen32)
   exact (WS.mk (tc (tc (tc (tc (tc (Zd (Zr (Zdf (ZV hlen32 ZHa))) Zb)))))) (Zf rfl (cc Zh) Zc))
  ·subst ZC2
   refine nw ?_
   refine AWP.seq ?_
   refine ns ?_
   obtain rfl := Zg hF
   refine ns ?_
   refine Exists.intro [(1000, 1000)] ?_
   refine st ?_
   exact wx (WS.mk (Zd (Zc9 (ZcG (WE.refl _) (ZcG (WE.refl _) Zda))) Zb) (Zf rfl (cc Zh) Zc))
theorem Zk4 : ∀ (sub : (List (ByteArray × Za))) (t : Za), ∀ r, ZbV sub t = some r → ZbV.M sub t r := fun sub t => (Zkc sub).1 t
theorem types_measure_l1_ok : ∀ (ZcO : Int) (ZbG : Int) (t : Za) (Zk0 : Nat) (sub : (List (ByteArray × Za))) (ZeD : (List Za)), ∀ r, Z5 ZcO ZbG t Zk0 sub ZeD = some r → Z5.M ZcO ZbG t Zk0 sub ZeD r := fun ZcO ZbG t Zk0 sub ZeD => (Zkc sub).2 ZcO ZbG t Zk0 ZeD

def ZdD (Zew : (List ByteArray)) (r77 : ((List ByteArray))) (ZnR : Nat) (t : Za) (sub : (List (ByteArray × Za))) (ZgV : (List ByteArray)) : Option (Za) :=
 (match ZgV with
 | x92 :: ZyQ =>
 ZeP sub (Za.mk 0 (ByteArray.mk #[]) (Zk.mk ([] : List Zk)) ([] : List Za)) x92 >>= fun r95 =>
 if r95.2 = true then
 Zc7 Zew ([] : List ByteArray) r95.1 >>= fun r97 =>
 ZdD r97 r77 (ZnR + 1) t sub ZyQ
 else
 ZdD Zew r77 (ZnR + 1) t sub ZyQ
 | [] =>
 none)
 partial_fixpoint
def ZdD.M (Zew : (List ByteArray)) (r77 : ((List ByteArray))) (ZnR : Nat) (t : Za) (sub : (List (ByteArray × Za))) (ZgV : (List ByteArray)) (r : Za) : Prop :=
 ∀ Zm3 : List ByteArray, r77 = Zm3 ++ ZgV → ZnR = Zm3.length → r77.length ≤ maxLen → AWL Tryz.prog 98 (Code.sub (Zq Tryz.f70) [1, 1, 0, 1, 0, 1, 0, 1, 0, 0]) (Code.cont Tryz.prog 98 (Zq Tryz.f70) [1, 1, 0, 1, 0, 1, 0, 1, 0] (ZbW tab Tryz.f70.results (ZbY (.agg [.v (.int .i64 r.fOp), .v (.string r.fName), .sl (r.fBound.fArgs.map Zk.cells), .sl (r.fKids.map Za.cells)]) [(1000, [(none, .ob 183 (sub.map (Zeb c_S Za.cells)))])]))) ⟨[(0, .c none (.rf 1000)), (3, .ptr 3 0), (4, .ptr 4 0), (7, .c (some (7, 9)) (.sl (Zew.map c_S))), (34, .c (some (34, 9)) (.sl (r77.map c_S))), (35, .c none (.v (.int .i64 ((r77.length : Nat) : Int)))), (36, .c none (.v (.int .i64 ((ZnR : Nat) : Int))))], [(3, [(none, .v (.int .i64 t.fOp)), (none, .v (.string t.fName)), (none, .sl (t.fBound.fArgs.map Zk.cells)), (none, .sl (t.fKids.map Za.cells))]), (4, [(none, .v (.int .i64 0)), (none, .v (.string (ByteArray.mk #[]))), (none, .nils), (none, .nils)]), (1000, [(none, .ob 183 (sub.map (Zeb c_S Za.cells)))])]⟩
theorem Zo8 (Zew : (List ByteArray)) (r77 : ((List ByteArray))) (ZnR : Nat) (t : Za) (sub : (List (ByteArray × Za))) (ZgV : (List ByteArray)) : ∀ r, ZdD Zew r77 ZnR t sub ZgV = some r → ZdD.M Zew r77 ZnR t sub ZgV r := by
 refine ZdD.partial_correctness r77 t sub (fun Zew ZnR ZgV r => ZdD.M Zew r77 ZnR t sub ZgV r) ?_ Zew ZnR ZgV
 intro types_subst_l1' Zjr Zew ZnR ZgV r hF
 have Zkd := fun (Zew : (List ByteArray)) (_r77 : ((List ByteArray))) (ZnR : Nat) (_t : Za) (_sub : (List (ByteArray × Za))) (ZgV : (List ByteArray)) => Zjr Zew ZnR ZgV
 clear Zjr
 unfold ZdD.M
 intro Zm3 Zt0 ZtX hlen78
 refine AWL.step ?_
 refine AWP.seq ?_
 refine ns ?_
 refine AWP.seq ?_
 refine nw ?_
 refine ZN Zt0 ZtX (fun x92 ZyQ ZD6 ZIw ZFT => ?_) (fun ZD6 => ?_)
 ·subst ZD6
  refine nw ?_
  refine AWP.seq ?_
  refine AWP.block ?_
  refine AWP.seq ?_
  refine nn ?_
  refine sr (Zab (f := c_S) rfl ZIw) ?_
  refine st ?_
  refine AWP.seq ?_
  obtain ⟨r95, ZHr, hF⟩ := bind_some hF
  refine ns ?_
  refine ZhE (m := sub) (k := x92) ZhN (ev := Za.cells) ZHr (Za.cells_eq r95.1) (fun x => Za.cells_len x) rfl rfl (ZdA (Za.cells_eq (Za.mk 0 (ByteArray.mk #[]) (Zk.mk ([] : List Zk)) ([] : List Za))) (lc (lc (ZaR WE.nil (ZaR WE.nil Zo))))) ?_
  refine st ?_
  refine AWP.seq ?_
  refine ns ?_
  refine nw ?_
  refine Zi hF (fun Zpt hF => ?_) (fun Zpt hF => ?_)
  ·obtain ⟨r97, ZIe, hF⟩ := bind_some hF
   refine ns ?_
   refine e3 ?_
   refine st ?_
   refine cm (Zj.weak (rn [(7, 0)]) (Zkz Zew ([] : List ByteArray) r95.1 _ ZIe) rfl (WS.mk (Zd (Zal rfl (WE.refl _)) (Zd (Zr WE.nil) (Zd (Zt (lc (lc (lc (lc Zo))))) Zb))) Zc)) ?_
   refine st ?_
   refine ns ?_
   refine AWL.weak (rn [(34, 34), (49, 7)]) ?_ (Zkd r97 r77 (ZnR + 1) t sub ZyQ _ hF (Zm3 ++ [x92]) (by rw [Zt0]; simp) (by rw [ZtX]; simp) hlen78)
   exact (WS.mk (tc (tp (tp (Zd (Zal rfl (WE.refl _)) (Zd (Zal rfl (WE.refl _)) (tc (Zd (Zr (Zdf (ZV hlen78 ZFT))) Zb))))))) (Zf rfl (cc (cc (cc (cc Zh)))) (Zf rfl (cc (cc (cc (cc Zh)))) (Zf rfl (cc Zh) Zc))))
  ·refine nw ?_
   refine ns ?_
   refine AWL.weak (rn [(7, 7), (34, 34)]) ?_ (Zkd Zew r77 (ZnR + 1) t sub ZyQ _ hF (Zm3 ++ [x92]) (by rw [Zt0]; simp) (by rw [ZtX]; simp) hlen78)
   exact (WS.mk (tc (tp (tp (Zd (Zal rfl (WE.refl _)) (Zd (Zal rfl (WE.refl _)) (tc (Zd (Zr (Zdf (ZV hlen78 ZFT))) Zb))))))) (Zf rfl (cc (cc (cc (cc Zh)))) (Zf rfl (cc (cc (cc (cc Zh)))) (Zf rfl (cc Zh) Zc))))
 ·subst ZD6
  refine nw ?_
  refine AWP.seq ?_
  cases hF

mutual
def ZcQ (sub : (List (ByteArray × Za))) (t : Za) : Option (Za) :=
 if (t.fOp == 1) = true then
 ZeP sub (Za.mk 0 (ByteArray.mk #[]) (Zk.mk ([] : List Zk)) ([] : List Za)) t.fName >>= fun r12 =>
 if r12.2 = true then
 Zco r12.1 >>= fun r14 =>
 some r14
 else
 some t
 else
 if (t.fOp == 4) = true then
 Zc7 ([] : List ByteArray) ([] : List ByteArray) t >>= fun r77 =>
 ZdD ([]) r77 0 t sub r77
 else
 Zby t 0 ([]) sub t.fKids
 partial_fixpoint
def Zby (t : Za) (ZkX : Nat) (ZgG : (List Za)) (sub : (List (ByteArray × Za))) (ZeC : (List Za)) : Option (Za) :=
 (match ZeC with
 | Zyw :: Zzv =>
 ZcQ sub Zyw >>= fun ZzW =>
 Z4 ((ZgG.length + ([ZzW]).length) * 72 ≤ 140737488355328) >>= fun _ =>
 Zby t (ZkX + 1) (ZgG ++ ([ZzW])) sub Zzv
 | [] =>
 some (Za.mk t.fOp t.fName t.fBound ZgG))
 partial_fixpoint
end
def ZcQ.M (sub : (List (ByteArray × Za))) (t : Za) (r : Za) : Prop :=
 Zj Tryz.prog 70 [.c none (.rf 1000), .agg [.v (.int .i64 t.fOp), .v (.string t.fName), .sl (t.fBound.fArgs.map Zk.cells), .sl (t.fKids.map Za.cells)]] [(1000, [(none, .ob 183 (sub.map (Zeb c_S Za.cells)))])] (fun d b => d = .agg [.v (.int .i64 r.fOp), .v (.string r.fName), .sl (r.fBound.fArgs.map Zk.cells), .sl (r.fKids.map Za.cells)] ∧ b = [(1000, [(none, .ob 183 (sub.map (Zeb c_S Za.cells)))])])
def Zby.M (t : Za) (ZkX : Nat) (ZgG : (List Za)) (sub : (List (ByteArray × Za))) (ZeC : (List Za)) (r : Za) : Prop :=
 ∀ Zpb : List Za, t.fKids = Zpb ++ ZeC → ZkX = Zpb.length → t.fKids.length ≤ maxLen → AWL Tryz.prog 98 (Code.sub (Zq Tryz.f70) [1, 1, 1, 1, 1, 0, 1, 0, 0]) (Code.cont Tryz.prog 98 (Zq Tryz.f70) [1, 1, 1, 1, 1, 0, 1, 0] (ZbW tab Tryz.f70.results (ZbY (.agg [.v (.int .i64 r.fOp), .v (.string r.fName), .sl (r.fBound.fArgs.map Zk.cells), .sl (r.fKids.map Za.cells)]) [(1000, [(none, .ob 183 (sub.map (Zeb c_S Za.cells)))])]))) ⟨[(0, .c none (.rf 1000)), (3, .ptr 3 0), (4, .ptr 4 0), (82, .c none (.sl (t.fKids.map Za.cells))), (83, .c none (.v (.int .i64 ((t.fKids.length : Nat) : Int)))), (84, .c none (.v (.int .i64 ((ZkX : Nat) : Int))))], [(3, [(none, .v (.int .i64 t.fOp)), (none, .v (.string t.fName)), (none, .sl (t.fBound.fArgs.map Zk.cells)), ((some (4153, 28)), .sl (ZgG.map Za.cells))]), (4, [(none, .v (.int .i64 0)), (none, .v (.string (ByteArray.mk #[]))), (none, .nils), (none, .nils)]), (1000, [(none, .ob 183 (sub.map (Zeb c_S Za.cells)))])]⟩
theorem ZlY (sub : (List (ByteArray × Za))) : (∀ (t : Za), ∀ r, ZcQ sub t = some r → ZcQ.M sub t r) ∧ (∀ (t : Za) (ZkX : Nat) (ZgG : (List Za)) (ZeC : (List Za)), ∀ r, Zby t ZkX ZgG sub ZeC = some r → Zby.M t ZkX ZgG sub ZeC r) := by
 refine ZcQ.mutual_partial_correctness sub (fun t r => ZcQ.M sub t r) (fun t ZkX ZgG ZeC r => Zby.M t ZkX ZgG sub ZeC r) ?_ ?_
 ·intro types_subst_l2' Zez t r hF
  have Zhr := fun (t : Za) (ZkX : Nat) (ZgG : (List Za)) (_sub : (List (ByteArray × Za))) (ZeC : (List Za)) => Zez t ZkX ZgG ZeC
  clear Zez
  unfold ZcQ.M
  refine en Tryz.func70 ?_
  refine AWP.seq ?_
  refine ns ?_
  refine AWP.seq ?_
  refine AWP.seq ?_
  refine ns ?_
  refine nw ?_
  refine Zi hF (fun hc8 hF => ?_) (fun hc8 hF => ?_)
  ·refine AWP.seq ?_
   refine AWP.seq ?_
   obtain ⟨r12, ZyA, hF⟩ := bind_some hF
   refine ns ?_
   refine ZhE (m := sub) (k := t.fName) ZhN (ev := Za.cells) ZyA (Za.cells_eq r12.1) (fun x => Za.cells_len x) rfl rfl (ZdA (Za.cells_eq (Za.mk 0 (ByteArray.mk #[]) (Zk.mk ([] : List Zk)) ([] : List Za))) (lc (lc (ZaR WE.nil (ZaR WE.nil Zo))))) ?_
   refine st ?_
   refine AWP.seq ?_
   refine ns ?_
   refine nw ?_
   refine Zi hF (fun ZbB hF => ?_) (fun ZbB hF => ?_)
   ·refine AWP.seq ?_
    obtain ⟨r14, ZrV, hF⟩ := bind_some hF
    refine ns ?_
    refine e3 ?_
    refine st ?_
    refine cm (Zj.weak (rn []) (Zqh r12.1 _ ZrV) rfl (WS.mk (Zd (Zt (lc (lc (lc (lc Zo))))) Zb) Zc)) ?_
    refine st ?_
    obtain rfl := Zg hF
    refine ns ?_
    refine Exists.intro [(1000, 1000)] ?_
    refine st ?_
    exact wx (WS.mk (Zd (Zt (lc (lc (lc (lc Zo))))) Zb) (Zf rfl (cc Zh) Zc))
   ·refine nw ?_
    refine AWP.seq ?_
    refine ns ?_
    obtain rfl := Zg hF
    refine ns ?_
    refine Exists.intro [(1000, 1000)] ?_
    refine st ?_
    exact wx (WS.mk (Zd (Zt (lc (lc (lc (lc Zo))))) Zb) (Zf rfl (cc Zh) Zc))
  ·refine nw ?_
   refine AWP.seq ?_
   refine AWP.seq ?_
   refine ns ?_
   refine nw ?_
   refine Zi hF (fun ZkZ hF => ?_) (fun ZkZ hF => ?_)
   ·refine AWP.seq ?_
    refine ns ?_
    refine AWP.seq ?_
    refine AWP.seq ?_
    obtain ⟨r77, ZEn, hF⟩ := bind_some hF
    refine ns ?_
    refine e3 ?_
    refine st ?_
    refine cm (Zj.weak (rn []) (Zkz ([] : List ByteArray) ([] : List ByteArray) t _ ZEn) rfl (WS.mk (Zd ZjT (Zd (Zr WE.nil) (Zd (Zt (lc (lc (lc (lc Zo))))) Zb))) Zc)) ?_
    refine st ?_
    intro hlen78
    (try rw [List.length_map] at hlen78)
    (try rw [List.length_map])
    refine st ?_
    refine AWP.block ?_
    refine AWP.loop ?_
    refine AWL.weak (rn [(34, 34)]) ?_ (Zo8 ([]) r77 0 t sub r77 _ hF ([]) rfl rfl hlen78)
    exact (WS.mk (tc (tp (tp (Zd ZjT (Zd (Zal rfl (WE.refl _)) (tc (tc Zb))))))) (Zf rfl (cc (cc (cc (cc Zh)))) (Zf rfl (cc (cc (cc (cc Zh)))) (Zf rfl (cc Zh) Zc))))
   ·refine nw ?_
    refine AWP.seq ?_
    refine ns ?_
    refine AWP.seq ?_
    refine ns ?_
    refine AWP.seq ?_
    refine AWP.seq ?_
    refine ns ?_
    intro hlen138
    (try rw [List.length_map] at hlen138)
    (try rw [List.length_map])
    refine st ?_
    refine AWP.block ?_
    refine AWP.loop ?_
    refine AWL.weak (rn []) ?_ (Zhr t 0 ([]) sub t.fKids _ hF ([]) rfl rfl hlen138)
    exact (WS.mk (tc (tp (tp (tc (tc (tc Zb)))))) (Zf rfl (cc (cc (cc (Zno Zh)))) (Zf rfl (cc (cc (cc (cc Zh)))) (Zf rfl (cc Zh) Zc))))
 ·intro types_subst' types_subst_l2' ZlS Zez t ZkX ZgG ZeC r hF
  have Zre := fun (_sub : (List (ByteArray × Za))) (t : Za) => ZlS t
  clear ZlS
  have Zhr := fun (t : Za) (ZkX : Nat) (ZgG : (List Za)) (_sub : (List (ByteArray × Za))) (ZeC : (List Za)) => Zez t ZkX ZgG ZeC
  clear Zez
  unfold Zby.M
  intro Zpb Zxk ZxG hlen138
  refine AWL.step ?_
  refine AWP.seq ?_
  refine ns ?_
  refine AWP.seq ?_
  refine nw ?_
  refine ZN Zxk ZxG (fun Zyw Zzv ZAw ZEx ZFk => ?_) (fun ZAw => ?_)
  ·subst ZAw
   refine nw ?_
   refine AWP.seq ?_
   refine AWP.block ?_
   refine AWP.seq ?_
   refine nn ?_
   refine sr (Zab (f := Za.cells) (Za.cells_eq Zyw) ZEx) ?_
   refine st ?_
   obtain ⟨ZzW, ZFF, hF⟩ := bind_some hF
   obtain ⟨ZEC, hF⟩ := Zy hF
   refine nn ?_
   refine Or.inl (Exists.intro 6 (Exists.intro [[], [], [], [], [1000], []] (Exists.intro [([88, 89, 90, 91, 92, 93], [1000], []), ([89, 90, 91, 92, 93], [1000], []), ([88, 89, 90, 91, 92, 93], [], []), ([88, 89, 90, 91, 92, 93], [], []), ([88, 89, 92, 93], [], [1000]), ([88, 89, 93], [], [])] (Exists.intro [88, 89, 90, 91, 92, 93] (And.intro (by decide +kernel) ?_)))))
   refine dp ?_
   refine dp ?_
   refine dp ?_
   refine dp ?_
   (refine st ?_; apply Exists.intro; apply Exists.intro; apply And.intro; (focus ((conv => whnf); refine Exists.intro [(1000, 1000)] ?_; (conv => whnf); refine And.intro rfl ?_; (conv => whnf); refine Zj.mono (Zj.weak (rn []) (Zre sub Zyw _ ZFF) rfl (WS.mk (tc (Zd (Zt (lc (lc (lc (lc Zo))))) Zb)) (Zf rfl (cc Zh) Zc))) ?_; rintro d b ⟨rfl, rfl⟩; exact And.intro rfl (And.intro rfl rfl))); apply And.intro; (focus exact rfl); (conv => whnf))
   refine de (Zbs (f := Za.cells) (ZdA (Za.cells_eq ZzW) (lc (lc (lc (lc Zo))))) (ZY (f := Za.cells))) ?_
   refine sa (fun l => ZbO l (fun x => Za.cells_len x)) ZEC ?_
   refine Exists.intro _ (And.intro (WE.refl _) ?_)
   rw [← List.map_append]
   refine st ?_
   refine ns ?_
   refine AWL.weak (rn [(94, 4153)]) ?_ (Zhr t (ZkX + 1) (ZgG ++ ([ZzW])) sub Zzv _ hF (Zpb ++ [Zyw]) (by rw [Zxk]; simp) (by rw [ZxG]; simp) hlen138)
   exact (WS.mk (tc (tp (tp (tc (tc (Zd (Zr (Zdf (ZV hlen138 ZFk))) Zb)))))) (Zf rfl (cc (cc (cc (ZtE rfl (WE.refl _) Zh)))) (Zf rfl (cc (cc (cc (cc Zh)))) (Zf rfl (cc Zh) Zc))))
  ·subst ZAw
   refine nw ?_
   refine AWP.seq ?_
   refine ns ?_
   obtain rfl := Zg hF
   refine ns ?_
   refine Exists.intro [(1000, 1000)] ?_
   refine st ?_
   exact wx (WS.mk (Zd (Zt (lc (lc (lc (lc Zo))))) Zb) (Zf rfl (cc Zh) Zc))
theorem Znf : ∀ (sub : (List (ByteArray × Za))) (t : Za), ∀ r, ZcQ sub t = some r → ZcQ.M sub t r := fun sub t => (ZlY sub).1 t
theorem types_subst_l2_ok : ∀ (t : Za) (ZkX : Nat) (ZgG : (List Za)) (sub : (List (ByteArray × Za))) (ZeC : (List Za)), ∀ r, Zby t ZkX ZgG sub ZeC = some r → Zby.M t ZkX ZgG sub ZeC r := fun t ZkX ZgG sub ZeC => (ZlY sub).2 t ZkX ZgG ZeC

def Zcr (s : (List Ze)) (ZfU : Nat) (t : Za) (Zbj : (List (ByteArray × Za))) (Zdr : (List Ze)) : Option (Za) :=
 (match Zdr with
 | x73 :: ZqE =>
 Za7 x73.fName >>= fun r80 =>
 (if (!r80) = true then some true else Zci x73.fType >>= fun r81 =>
 some (r81 != 0)) >>= fun c82 =>
 if c82 = true then
 some (Za.mk 0 (ByteArray.mk #[]) (Zk.mk ([] : List Zk)) ([] : List Za))
 else
 ZeP Zbj (Za.mk 0 (ByteArray.mk #[]) (Zk.mk ([] : List Zk)) ([] : List Za)) x73.fName >>= fun r85 =>
 if (!r85.2) = true then
 Zcr s (ZfU + 1) t (ZhW Zbj x73.fName x73.fType) ZqE
 else
 Zcr s (ZfU + 1) t Zbj ZqE
 | [] =>
 ZbV Zbj t >>= fun r89 =>
 if ((decide (r89.1 > 20000)) || (decide (r89.2 > 100))) = true then
 some (Za.mk 0 (ByteArray.mk #[]) (Zk.mk ([] : List Zk)) ([] : List Za))
 else
 ZcQ Zbj t >>= fun r92 =>
 some r92)
 partial_fixpoint
def Zcr.M (s : (List Ze)) (ZfU : Nat) (t : Za) (Zbj : (List (ByteArray × Za))) (Zdr : (List Ze)) (r : Za) : Prop :=
 ∀ Zf8 : List Ze, s = Zf8 ++ Zdr → ZfU = Zf8.length → s.length ≤ maxLen → AWL Tryz.prog 65 (Code.sub (Zq Tryz.f44) [1, 1, 1, 0, 1, 0, 0]) (Code.cont Tryz.prog 65 (Zq Tryz.f44) [1, 1, 1, 0, 1, 0] (ZbW tab Tryz.f44.results (ZbY (.agg [.v (.int .i64 r.fOp), .v (.string r.fName), .sl (r.fBound.fArgs.map Zk.cells), .sl (r.fKids.map Za.cells)]) [(1000, [(none, .ob 90 (s.map Ze.cells))])]))) ⟨[(3, .ptr 3 0), (4, .ptr 4 0), (5, .c none (.rf 16)), (17, .c none (.rs 1000 s.length)), (18, .c none (.v (.int .i64 ((s.length : Nat) : Int)))), (19, .c none (.v (.int .i64 ((ZfU : Nat) : Int))))], [(3, [(none, .v (.int .i64 t.fOp)), (none, .v (.string t.fName)), (none, .sl (t.fBound.fArgs.map Zk.cells)), (none, .sl (t.fKids.map Za.cells))]), (4, [(none, .v (.int .i64 0)), (none, .v (.string (ByteArray.mk #[]))), (none, .nils), (none, .nils)]), (16, [(none, .ob 183 (Zbj.map (Zeb c_S Za.cells)))]), (1000, [(none, .ob 90 (s.map Ze.cells))])]⟩
theorem ZoT (s : (List Ze)) (ZfU : Nat) (t : Za) (Zbj : (List (ByteArray × Za))) (Zdr : (List Ze)) : ∀ r, Zcr s ZfU t Zbj Zdr = some r → Zcr.M s ZfU t Zbj Zdr r := by
 refine Zcr.partial_correctness s t (fun ZfU Zbj Zdr r => Zcr.M s ZfU t Zbj Zdr r) ?_ ZfU Zbj Zdr
 intro types_Subst_l1' Zjv ZfU Zbj Zdr r hF
 have Zj7 := fun (_s : (List Ze)) (ZfU : Nat) (_t : Za) (Zbj : (List (ByteArray × Za))) (Zdr : (List Ze)) => Zjv ZfU Zbj Zdr
 clear Zjv
 unfold Zcr.M
 intro Zf8 ZlO Zlm hlen45
 refine AWL.step ?_
 refine AWP.seq ?_
 refine ns ?_
 refine AWP.seq ?_
 refine nw ?_
 refine ZN ZlO Zlm (fun x73 ZqE ZvN ZBO ZAh => ?_) (fun ZvN => ?_)
 ·subst ZvN
  refine nw ?_
  refine AWP.seq ?_
  refine AWP.block ?_
  refine AWP.seq ?_
  refine ns ?_
  refine And.intro (ZtU ZBO) ?_
  refine st ?_
  refine sr (Zab (f := Ze.cells) (Ze.cells_eq x73) ZBO) ?_
  refine st ?_
  refine AWP.seq ?_
  refine AWP.seq ?_
  obtain ⟨r80, ZCn, hF⟩ := bind_some hF
  obtain ⟨c82, ZhG, hF⟩ := bind_some hF
  refine AWP.cutN (fun T => ∃ r, WS r T ⟨[(3, .ptr 3 0), (4, .ptr 4 0), (5, .c none (.rf 16)), (7, .ptr 7 0), (17, .c none (.rs 1000 s.length)), (18, .c none (.v (.int .i64 ((s.length : Nat) : Int)))), (19, .c none (.v (.int .i64 ((ZfU : Nat) : Int)))), (32, .c none (.v (.bool c82)))], [(3, [(none, .v (.int .i64 t.fOp)), (none, .v (.string t.fName)), (none, .sl (t.fBound.fArgs.map Zk.cells)), (none, .sl (t.fKids.map Za.cells))]), (4, [(none, .v (.int .i64 0)), (none, .v (.string (ByteArray.mk #[]))), (none, .nils), (none, .nils)]), (7, [(none, .v (.string x73.fName)), (none, .v (.int .i64 x73.fType.fOp)), (none, .v (.string x73.fType.fName)), (none, .sl (x73.fType.fBound.fArgs.map Zk.cells)), (none, .sl (x73.fType.fKids.map Za.cells))]), (16, [(none, .ob 183 (Zbj.map (Zeb c_S Za.cells)))]), (1000, [(none, .ob 90 (s.map Ze.cells))])]⟩) ?_ (fun T hw => ?_)
  ·refine ns ?_
   refine e3 ?_
   refine st ?_
   refine cm (Zj.weak (rn []) (ZfD x73.fName _ ZCn) rfl (WS.mk (tc Zb) Zc)) ?_
   refine st ?_
   refine Zm false (fun Zkr => ?_) (fun Zkr => ?_)
   ·have ZhG := ift Zkr ZhG
    (conv => whnf)
    obtain rfl := Zg ZhG
    refine st ?_
    exact wx (WS.mk (tp (tp (tc (tp (Zd (Zr (Zaf (by first | exact rfl | simp only [List.length_set]))) (tc (tc (Zd (Zr (web Zkr)) Zb)))))))) (Zf rfl (cc (cc (cc (cc Zh)))) (Zf rfl (cc (cc (cc (cc Zh)))) (Zf rfl (cc (cc (cc (cc (cc Zh))))) (Zf rfl (cc Zh) (Zf rfl (cc Zh) Zc))))))
   ·have ZhG := ife Zkr ZhG
    obtain ⟨r81, Zyx, ZhG⟩ := bind_some ZhG
    (conv => whnf)
    refine st ?_
    refine e3 ?_
    refine st ?_
    refine cm (Zj.weak (rn []) (Zff x73.fType _ Zyx) rfl (WS.mk (Zd (Zt (lc (lc (lc (lc Zo))))) Zb) Zc)) ?_
    refine st ?_
    obtain rfl := Zg ZhG
    refine st ?_
    exact wx (WS.mk (tp (tp (tc (tp (Zd (Zr (Zaf (by first | exact rfl | simp only [List.length_set]))) (tc (tc (Zd (Zr (web Zkr)) Zb)))))))) (Zf rfl (cc (cc (cc (cc Zh)))) (Zf rfl (cc (cc (cc (cc Zh)))) (Zf rfl (cc (cc (cc (cc (cc Zh))))) (Zf rfl (cc Zh) (Zf rfl (cc Zh) Zc))))))
  obtain ⟨r0, hw⟩ := hw
  (conv => whnf)
  refine AWP.weak r0 hw ?_
  refine nw ?_
  refine Zi hF (fun ZpD hF => ?_) (fun ZpD hF => ?_)
  ·refine AWP.seq ?_
   refine ns ?_
   obtain rfl := Zg hF
   refine ns ?_
   refine Exists.intro [(1000, 1000)] ?_
   refine st ?_
   exact wx (WS.mk (Zd (Zt (lc (lc (ZaR WE.nil (ZaR WE.nil Zo))))) Zb) (Zf rfl (cc Zh) Zc))
  ·refine nw ?_
   refine AWP.seq ?_
   obtain ⟨r85, ZEj, hF⟩ := bind_some hF
   refine ns ?_
   refine ZhE (m := Zbj) (k := x73.fName) ZhN (ev := Za.cells) ZEj (Za.cells_eq r85.1) (fun x => Za.cells_len x) rfl rfl (ZdA (Za.cells_eq (Za.mk 0 (ByteArray.mk #[]) (Zk.mk ([] : List Zk)) ([] : List Za))) (lc (lc (ZaR WE.nil (ZaR WE.nil Zo))))) ?_
   refine st ?_
   refine AWP.seq ?_
   refine ns ?_
   refine nw ?_
   refine Zi hF (fun ZCD hF => ?_) (fun ZCD hF => ?_)
   ·refine ns ?_
    refine ZoK (m := Zbj) (k := x73.fName) (v := x73.fType) ZhN (ev := Za.cells) (ZdA (Za.cells_eq x73.fType) (lc (lc (lc (lc Zo))))) ?_
    refine st ?_
    refine ns ?_
    refine AWL.weak (rn []) ?_ (Zj7 s (ZfU + 1) t (ZhW Zbj x73.fName x73.fType) ZqE _ hF (Zf8 ++ [x73]) (by rw [ZlO]; simp) (by rw [Zlm]; simp) hlen45)
    exact (WS.mk (tp (tp (tc (Zd (Zr (Zaf (by first | exact rfl | simp only [List.length_set]))) (tc (Zd (Zr (Zdf (ZV hlen45 ZAh))) Zb)))))) (Zf rfl (cc (cc (cc (cc Zh)))) (Zf rfl (cc (cc (cc (cc Zh)))) (Zf rfl (cc Zh) (Zf rfl (cc Zh) Zc)))))
   ·refine nw ?_
    refine ns ?_
    refine AWL.weak (rn []) ?_ (Zj7 s (ZfU + 1) t Zbj ZqE _ hF (Zf8 ++ [x73]) (by rw [ZlO]; simp) (by rw [Zlm]; simp) hlen45)
    exact (WS.mk (tp (tp (tc (Zd (Zr (Zaf (by first | exact rfl | simp only [List.length_set]))) (tc (Zd (Zr (Zdf (ZV hlen45 ZAh))) Zb)))))) (Zf rfl (cc (cc (cc (cc Zh)))) (Zf rfl (cc (cc (cc (cc Zh)))) (Zf rfl (cc Zh) (Zf rfl (cc Zh) Zc)))))
 ·subst ZvN
  refine nw ?_
  refine AWP.seq ?_
  refine AWP.seq ?_
  obtain ⟨r89, ZEh, hF⟩ := bind_some hF
  refine ns ?_
  refine Exists.intro [] (Exists.intro [(16, 1000)] (Exists.intro [] ?_))
  refine st ?_
  refine cm (Zj.weak (rn []) (Zk4 Zbj t _ ZEh) rfl (WS.mk (tc (Zd (Zt (lc (lc (lc (lc Zo))))) Zb)) (Zf rfl (cc Zh) Zc))) ?_
  refine st ?_
  refine AWP.seq ?_
  refine AWP.cutN (fun T => ∃ r, WS r T ⟨[(3, .ptr 3 0), (4, .ptr 4 0), (5, .c none (.rf 16)), (60, .c none (.v (.bool ((decide (r89.1 > 20000)) || (decide (r89.2 > 100))))))], [(3, [(none, .v (.int .i64 t.fOp)), (none, .v (.string t.fName)), (none, .sl (t.fBound.fArgs.map Zk.cells)), (none, .sl (t.fKids.map Za.cells))]), (4, [(none, .v (.int .i64 0)), (none, .v (.string (ByteArray.mk #[]))), (none, .nils), (none, .nils)]), (16, [(none, .ob 183 (Zbj.map (Zeb c_S Za.cells)))]), (1000, [(none, .ob 90 (s.map Ze.cells))])]⟩) ?_ (fun T hw => ?_)
  ·refine ns ?_
   refine Zm false (fun ZvV => ?_) (fun ZvV => ?_)
   ·(conv => whnf)
    refine st ?_
    exact wx (WS.mk (tp (tp (tc (Zd (Zr (web ZvV)) Zb)))) (Zf rfl (cc (cc (cc (cc Zh)))) (Zf rfl (cc (cc (cc (cc Zh)))) (Zf rfl (cc Zh) (Zf rfl (cc Zh) Zc)))))
   ·(conv => whnf)
    refine st ?_
    exact wx (WS.mk (tp (tp (tc (Zd (Zr (web ZvV)) Zb)))) (Zf rfl (cc (cc (cc (cc Zh)))) (Zf rfl (cc (cc (cc (cc Zh)))) (Zf rfl (cc Zh) (Zf rfl (cc Zh) Zc)))))
  obtain ⟨r0, hw⟩ := hw
  (conv => whnf)
  refine AWP.weak r0 hw ?_
  refine nw ?_
  refine Zi hF (fun ZCN hF => ?_) (fun ZCN hF => ?_)
  ·refine AWP.seq ?_
   refine ns ?_
   obtain rfl := Zg hF
   refine ns ?_
   refine Exists.intro [(1000, 1000)] ?_
   refine st ?_
   exact wx (WS.mk (Zd (Zt (lc (lc (ZaR WE.nil (ZaR WE.nil Zo))))) Zb) (Zf rfl (cc Zh) Zc))
  ·refine nw ?_
   refine AWP.seq ?_
   obtain ⟨r92, Zwb, hF⟩ := bind_some hF
   refine ns ?_
   refine Exists.intro [] (Exists.intro [(16, 1000)] (Exists.intro [] ?_))
   refine st ?_
   refine cm (Zj.weak (rn []) (Znf Zbj t _ Zwb) rfl (WS.mk (tc (Zd (Zt (lc (lc (lc (lc Zo))))) Zb)) (Zf rfl (cc Zh) Zc))) ?_
   refine st ?_
   obtain rfl := Zg hF
   refine ns ?_
   refine Exists.intro [(1000, 1000)] ?_
   refine st ?_
   exact wx (WS.mk (Zd (Zt (lc (lc (lc (lc Zo))))) Zb) (Zf rfl (cc Zh) Zc))

def ZeO (s : (List Ze)) (t : Za) : Option (Za) :=
 Zci t >>= fun r3 =>
 if (r3 != 0) = true then
 some (Za.mk 0 (ByteArray.mk #[]) (Zk.mk ([] : List Zk)) ([] : List Za))
 else
 Zcr s 0 t ([] : List (ByteArray × Za)) s
def ZeO.M (s : (List Ze)) (t : Za) (r : Za) : Prop :=
 Zj Tryz.prog 44 [.c none (.rs 1000 s.length), .agg [.v (.int .i64 t.fOp), .v (.string t.fName), .sl (t.fBound.fArgs.map Zk.cells), .sl (t.fKids.map Za.cells)]] [(1000, [(none, .ob 90 (s.map Ze.cells))])] (fun d b => d = .agg [.v (.int .i64 r.fOp), .v (.string r.fName), .sl (r.fBound.fArgs.map Zk.cells), .sl (r.fKids.map Za.cells)] ∧ b = [(1000, [(none, .ob 90 (s.map Ze.cells))])])
theorem ZqJ (s : (List Ze)) (t : Za) (r : Za) (hF : ZeO s t = some r) : ZeO.M s t r := by
 unfold ZeO at hF
 unfold ZeO.M
 refine en Tryz.func44 ?_
 refine AWP.seq ?_
 refine ns ?_
 refine AWP.seq ?_
 refine AWP.seq ?_
 obtain ⟨r3, hr3, hF⟩ := bind_some hF
 refine ns ?_
 refine e3 ?_
 refine st ?_
 refine cm (Zj.weak (rn []) (Zff t _ hr3) rfl (WS.mk (Zd (Zt (lc (lc (lc (lc Zo))))) Zb) Zc)) ?_
 refine st ?_
 refine nw ?_
 refine Zi hF (fun hc4 hF => ?_) (fun hc4 hF => ?_)
 ·refine AWP.seq ?_
  refine ns ?_
  obtain rfl := Zg hF
  refine ns ?_
  refine Exists.intro [(1000, 1000)] ?_
  refine st ?_
  exact wx (WS.mk (Zd (Zt (lc (lc (ZaR WE.nil (ZaR WE.nil Zo))))) Zb) (Zf rfl (cc Zh) Zc))
 ·refine nw ?_
  refine AWP.seq ?_
  refine ns ?_
  refine AWP.seq ?_
  refine AWP.seq ?_
  refine ns ?_
  intro hlen45
  (try rw [List.length_map] at hlen45)
  (try rw [List.length_map])
  refine st ?_
  refine AWP.block ?_
  refine AWP.loop ?_
  refine AWL.weak (rn []) ?_ (ZoT s 0 t ([] : List (ByteArray × Za)) s _ hF ([]) rfl rfl hlen45)
  exact (WS.mk (tp (tp (tc (Zd (Zr (Zaf (by first | exact rfl | simp only [List.length_set]))) (tc (tc Zb)))))) (Zf rfl (cc (cc (cc (cc Zh)))) (Zf rfl (cc (cc (cc (cc Zh)))) (Zf rfl (cc Zh) (Zf rfl (cc Zh) Zc)))))

def Zb5 (s : (List Ze)) (ZfU : Nat) (t : Za) (Zbj : (List (ByteArray × Za))) (Zdr : (List Ze)) : Option (Za) :=
 (match Zdr with
 | x73 :: ZqE =>
 Za7 x73.fName >>= fun r80 =>
 (if (!r80) = true then some true else Zci x73.fType >>= fun r81 =>
 some (r81 != 0)) >>= fun c82 =>
 if c82 = true then
 some (Za.mk 0 (ByteArray.mk #[]) (Zk.mk ([] : List Zk)) ([] : List Za))
 else
 ZeP Zbj (Za.mk 0 (ByteArray.mk #[]) (Zk.mk ([] : List Zk)) ([] : List Za)) x73.fName >>= fun r85 =>
 if (!r85.2) = true then
 Zb5 s (ZfU + 1) t (ZhW Zbj x73.fName x73.fType) ZqE
 else
 Zb5 s (ZfU + 1) t Zbj ZqE
 | [] =>
 ZbV Zbj t >>= fun r89 =>
 if ((decide (r89.1 > 20000)) || (decide (r89.2 > 100))) = true then
 some (Za.mk 0 (ByteArray.mk #[]) (Zk.mk ([] : List Zk)) ([] : List Za))
 else
 ZcQ Zbj t >>= fun r92 =>
 some r92)
 partial_fixpoint
def Zb5.M (s : (List Ze)) (ZfU : Nat) (t : Za) (Zbj : (List (ByteArray × Za))) (Zdr : (List Ze)) (r : Za) : Prop :=
 ∀ Zf8 : List Ze, s = Zf8 ++ Zdr → ZfU = Zf8.length → s.length ≤ maxLen → AWL Tryz.prog 65 (Code.sub (Zq Tryz.f44) [1, 1, 1, 0, 1, 0, 0]) (Code.cont Tryz.prog 65 (Zq Tryz.f44) [1, 1, 1, 0, 1, 0] (ZbW tab Tryz.f44.results (ZbY (.agg [.v (.int .i64 r.fOp), .v (.string r.fName), .sl (r.fBound.fArgs.map Zk.cells), .sl (r.fKids.map Za.cells)]) []))) ⟨[(3, .ptr 3 0), (4, .ptr 4 0), (5, .c none (.rf 16)), (17, .c none (.sl (s.map Ze.cells))), (18, .c none (.v (.int .i64 ((s.length : Nat) : Int)))), (19, .c none (.v (.int .i64 ((ZfU : Nat) : Int))))], [(3, [(none, .v (.int .i64 t.fOp)), (none, .v (.string t.fName)), (none, .sl (t.fBound.fArgs.map Zk.cells)), (none, .sl (t.fKids.map Za.cells))]), (4, [(none, .v (.int .i64 0)), (none, .v (.string (ByteArray.mk #[]))), (none, .nils), (none, .nils)]), (16, [(none, .ob 183 (Zbj.map (Zeb c_S Za.cells)))])]⟩
theorem Zop (s : (List Ze)) (ZfU : Nat) (t : Za) (Zbj : (List (ByteArray × Za))) (Zdr : (List Ze)) : ∀ r, Zb5 s ZfU t Zbj Zdr = some r → Zb5.M s ZfU t Zbj Zdr r := by
 refine Zb5.partial_correctness s t (fun ZfU Zbj Zdr r => Zb5.M s ZfU t Zbj Zdr r) ?_ ZfU Zbj Zdr
 intro types_Subst__l1' ZiY ZfU Zbj Zdr r hF
 have ZjP := fun (_s : (List Ze)) (ZfU : Nat) (_t : Za) (Zbj : (List (ByteArray × Za))) (Zdr : (List Ze)) => ZiY ZfU Zbj Zdr
 clear ZiY
 unfold Zb5.M
 intro Zf8 ZlO Zlm hlen45
 refine AWL.step ?_
 refine AWP.seq ?_
 refine ns ?_
 refine AWP.seq ?_
 refine nw ?_
 refine ZN ZlO Zlm (fun x73 ZqE ZvN ZBO ZAh => ?_) (fun ZvN => ?_)
 ·subst ZvN
  refine nw ?_
  refine AWP.seq ?_
  refine AWP.block ?_
  refine AWP.seq ?_
  refine nn ?_
  refine sr (Zab (f := Ze.cells) (Ze.cells_eq x73) ZBO) ?_
  refine st ?_
  refine AWP.seq ?_
  refine AWP.seq ?_
  obtain ⟨r80, ZCn, hF⟩ := bind_some hF
  obtain ⟨c82, ZhG, hF⟩ := bind_some hF
  refine AWP.cutN (fun T => ∃ r, WS r T ⟨[(3, .ptr 3 0), (4, .ptr 4 0), (5, .c none (.rf 16)), (7, .ptr 7 0), (17, .c none (.sl (s.map Ze.cells))), (18, .c none (.v (.int .i64 ((s.length : Nat) : Int)))), (19, .c none (.v (.int .i64 ((ZfU : Nat) : Int)))), (32, .c none (.v (.bool c82)))], [(3, [(none, .v (.int .i64 t.fOp)), (none, .v (.string t.fName)), (none, .sl (t.fBound.fArgs.map Zk.cells)), (none, .sl (t.fKids.map Za.cells))]), (4, [(none, .v (.int .i64 0)), (none, .v (.string (ByteArray.mk #[]))), (none, .nils), (none, .nils)]), (7, [(none, .v (.string x73.fName)), (none, .v (.int .i64 x73.fType.fOp)), (none, .v (.string x73.fType.fName)), (none, .sl (x73.fType.fBound.fArgs.map Zk.cells)), (none, .sl (x73.fType.fKids.map Za.cells))]), (16, [(none, .ob 183 (Zbj.map (Zeb c_S Za.cells)))])]⟩) ?_ (fun T hw => ?_)
  ·refine ns ?_
   refine e3 ?_
   refine st ?_
   refine cm (Zj.weak (rn []) (ZfD x73.fName _ ZCn) rfl (WS.mk (tc Zb) Zc)) ?_
   refine st ?_
   refine Zm false (fun Zkr => ?_) (fun Zkr => ?_)
   ·have ZhG := ift Zkr ZhG
    (conv => whnf)
    obtain rfl := Zg ZhG
    refine st ?_
    exact wx (WS.mk (tp (tp (tc (tp (tc (tc (tc (Zd (Zr (web Zkr)) Zb)))))))) (Zf rfl (cc (cc (cc (cc Zh)))) (Zf rfl (cc (cc (cc (cc Zh)))) (Zf rfl (cc (cc (cc (cc (cc Zh))))) (Zf rfl (cc Zh) Zc)))))
   ·have ZhG := ife Zkr ZhG
    obtain ⟨r81, Zyx, ZhG⟩ := bind_some ZhG
    (conv => whnf)
    refine st ?_
    refine e3 ?_
    refine st ?_
    refine cm (Zj.weak (rn []) (Zff x73.fType _ Zyx) rfl (WS.mk (Zd (Zt (lc (lc (lc (lc Zo))))) Zb) Zc)) ?_
    refine st ?_
    obtain rfl := Zg ZhG
    refine st ?_
    exact wx (WS.mk (tp (tp (tc (tp (tc (tc (tc (Zd (Zr (web Zkr)) Zb)))))))) (Zf rfl (cc (cc (cc (cc Zh)))) (Zf rfl (cc (cc (cc (cc Zh)))) (Zf rfl (cc (cc (cc (cc (cc Zh))))) (Zf rfl (cc Zh) Zc)))))
  obtain ⟨r0, hw⟩ := hw
  (conv => whnf)
  refine AWP.weak r0 hw ?_
  refine nw ?_
  refine Zi hF (fun ZpD hF => ?_) (fun ZpD hF => ?_)
  ·refine AWP.seq ?_
   refine ns ?_
   obtain rfl := Zg hF
   refine ns ?_
   refine Exists.intro [] ?_
   refine st ?_
   exact wx (WS.mk (Zd (Zt (lc (lc (ZaR WE.nil (ZaR WE.nil Zo))))) Zb) Zc)
  ·refine nw ?_
   refine AWP.seq ?_
   obtain ⟨r85, ZEj, hF⟩ := bind_some hF
   refine ns ?_
   refine ZhE (m := Zbj) (k := x73.fName) ZhN (ev := Za.cells) ZEj (Za.cells_eq r85.1) (fun x => Za.cells_len x) rfl rfl (ZdA (Za.cells_eq (Za.mk 0 (ByteArray.mk #[]) (Zk.mk ([] : List Zk)) ([] : List Za))) (lc (lc (ZaR WE.nil (ZaR WE.nil Zo))))) ?_
   refine st ?_
   refine AWP.seq ?_
   refine ns ?_
   refine nw ?_
   refine Zi hF (fun ZCD hF => ?_) (fun ZCD hF => ?_)
   ·refine ns ?_
    refine ZoK (m := Zbj) (k := x73.fName) (v := x73.fType) ZhN (ev := Za.cells) (ZdA (Za.cells_eq x73.fType) (lc (lc (lc (lc Zo))))) ?_
    refine st ?_
    refine ns ?_
    refine AWL.weak (rn []) ?_ (ZjP s (ZfU + 1) t (ZhW Zbj x73.fName x73.fType) ZqE _ hF (Zf8 ++ [x73]) (by rw [ZlO]; simp) (by rw [Zlm]; simp) hlen45)
    exact (WS.mk (tp (tp (tc (tc (tc (Zd (Zr (Zdf (ZV hlen45 ZAh))) Zb)))))) (Zf rfl (cc (cc (cc (cc Zh)))) (Zf rfl (cc (cc (cc (cc Zh)))) (Zf rfl (cc Zh) Zc))))
   ·refine nw ?_
    refine ns ?_
    refine AWL.weak (rn []) ?_ (ZjP s (ZfU + 1) t Zbj ZqE _ hF (Zf8 ++ [x73]) (by rw [ZlO]; simp) (by rw [Zlm]; simp) hlen45)
    exact (WS.mk (tp (tp (tc (tc (tc (Zd (Zr (Zdf (ZV hlen45 ZAh))) Zb)))))) (Zf rfl (cc (cc (cc (cc Zh)))) (Zf rfl (cc (cc (cc (cc Zh)))) (Zf rfl (cc Zh) Zc))))
 ·subst ZvN
  refine nw ?_
  refine AWP.seq ?_
  refine AWP.seq ?_
  obtain ⟨r89, ZEh, hF⟩ := bind_some hF
  refine ns ?_
  refine Exists.intro [] (Exists.intro [(16, 1000)] (Exists.intro [] ?_))
  refine st ?_
  refine cm (Zj.weak (rn []) (Zk4 Zbj t _ ZEh) rfl (WS.mk (tc (Zd (Zt (lc (lc (lc (lc Zo))))) Zb)) (Zf rfl (cc Zh) Zc))) ?_
  refine st ?_
  refine AWP.seq ?_
  refine AWP.cutN (fun T => ∃ r, WS r T ⟨[(3, .ptr 3 0), (4, .ptr 4 0), (5, .c none (.rf 16)), (60, .c none (.v (.bool ((decide (r89.1 > 20000)) || (decide (r89.2 > 100))))))], [(3, [(none, .v (.int .i64 t.fOp)), (none, .v (.string t.fName)), (none, .sl (t.fBound.fArgs.map Zk.cells)), (none, .sl (t.fKids.map Za.cells))]), (4, [(none, .v (.int .i64 0)), (none, .v (.string (ByteArray.mk #[]))), (none, .nils), (none, .nils)]), (16, [(none, .ob 183 (Zbj.map (Zeb c_S Za.cells)))])]⟩) ?_ (fun T hw => ?_)
  ·refine ns ?_
   refine Zm false (fun ZvV => ?_) (fun ZvV => ?_)
   ·(conv => whnf)
    refine st ?_
    exact wx (WS.mk (tp (tp (tc (Zd (Zr (web ZvV)) Zb)))) (Zf rfl (cc (cc (cc (cc Zh)))) (Zf rfl (cc (cc (cc (cc Zh)))) (Zf rfl (cc Zh) Zc))))
   ·(conv => whnf)
    refine st ?_
    exact wx (WS.mk (tp (tp (tc (Zd (Zr (web ZvV)) Zb)))) (Zf rfl (cc (cc (cc (cc Zh)))) (Zf rfl (cc (cc (cc (cc Zh)))) (Zf rfl (cc Zh) Zc))))
  obtain ⟨r0, hw⟩ := hw
  (conv => whnf)
  refine AWP.weak r0 hw ?_
  refine nw ?_
  refine Zi hF (fun ZCN hF => ?_) (fun ZCN hF => ?_)
  ·refine AWP.seq ?_
   refine ns ?_
   obtain rfl := Zg hF
   refine ns ?_
   refine Exists.intro [] ?_
   refine st ?_
   exact wx (WS.mk (Zd (Zt (lc (lc (ZaR WE.nil (ZaR WE.nil Zo))))) Zb) Zc)
  ·refine nw ?_
   refine AWP.seq ?_
   obtain ⟨r92, Zwb, hF⟩ := bind_some hF
   refine ns ?_
   refine Exists.intro [] (Exists.intro [(16, 1000)] (Exists.intro [] ?_))
   refine st ?_
   refine cm (Zj.weak (rn []) (Znf Zbj t _ Zwb) rfl (WS.mk (tc (Zd (Zt (lc (lc (lc (lc Zo))))) Zb)) (Zf rfl (cc Zh) Zc))) ?_
   refine st ?_
   obtain rfl := Zg hF
   refine ns ?_
   refine Exists.intro [] ?_
   refine st ?_
   exact wx (WS.mk (Zd (Zt (lc (lc (lc (lc Zo))))) Zb) Zc)

def Zeh (s : (List Ze)) (t : Za) : Option (Za) :=
 Zci t >>= fun r3 =>
 if (r3 != 0) = true then
 some (Za.mk 0 (ByteArray.mk #[]) (Zk.mk ([] : List Zk)) ([] : List Za))
 else
 Zb5 s 0 t ([] : List (ByteArray × Za)) s
def Zeh.M (s : (List Ze)) (t : Za) (r : Za) : Prop :=
 Zj Tryz.prog 44 [.c none (.sl (s.map Ze.cells)), .agg [.v (.int .i64 t.fOp), .v (.string t.fName), .sl (t.fBound.fArgs.map Zk.cells), .sl (t.fKids.map Za.cells)]] [] (fun d b => d = .agg [.v (.int .i64 r.fOp), .v (.string r.fName), .sl (r.fBound.fArgs.map Zk.cells), .sl (r.fKids.map Za.cells)] ∧ b = [])
theorem Zqa (s : (List Ze)) (t : Za) (r : Za) (hF : Zeh s t = some r) : Zeh.M s t r := by
 unfold Zeh at hF
 unfold Zeh.M
 refine en Tryz.func44 ?_
 refine AWP.seq ?_
 refine ns ?_
 refine AWP.seq ?_
 refine AWP.seq ?_
 obtain ⟨r3, hr3, hF⟩ := bind_some hF
 refine ns ?_
 refine e3 ?_
 refine st ?_
 refine cm (Zj.weak (rn []) (Zff t _ hr3) rfl (WS.mk (Zd (Zt (lc (lc (lc (lc Zo))))) Zb) Zc)) ?_
 refine st ?_
 refine nw ?_
 refine Zi hF (fun hc4 hF => ?_) (fun hc4 hF => ?_)
 ·refine AWP.seq ?_
  refine ns ?_
  obtain rfl := Zg hF
  refine ns ?_
  refine Exists.intro [] ?_
  refine st ?_
  exact wx (WS.mk (Zd (Zt (lc (lc (ZaR WE.nil (ZaR WE.nil Zo))))) Zb) Zc)
 ·refine nw ?_
  refine AWP.seq ?_
  refine ns ?_
  refine AWP.seq ?_
  refine AWP.seq ?_
  refine ns ?_
  intro hlen45
  (try rw [List.length_map] at hlen45)
  (try rw [List.length_map])
  refine st ?_
  refine AWP.block ?_
  refine AWP.loop ?_
  refine AWL.weak (rn []) ?_ (Zop s 0 t ([] : List (ByteArray × Za)) s _ hF ([]) rfl rfl hlen45)
  exact (WS.mk (tp (tp (tc (tc (tc (tc Zb)))))) (Zf rfl (cc (cc (cc (cc Zh)))) (Zf rfl (cc (cc (cc (cc Zh)))) (Zf rfl (cc Zh) Zc))))

def ZbC (s : (List Ze)) (name_ : ByteArray) (i_6 : Nat) (Zer : (List Ze)) : Option (Za × Bool) :=
 (match Zer with
 | x39 :: ZvH =>
 if (x39.fName.toList == name_.toList) = true then
 some (x39.fType, true)
 else
 ZbC s name_ (i_6 + 1) ZvH
 | [] =>
 some (Za.mk 0 (ByteArray.mk #[]) (Zk.mk ([] : List Zk)) ([] : List Za), false))
 partial_fixpoint
def ZbC.M (s : (List Ze)) (name_ : ByteArray) (i_6 : Nat) (Zer : (List Ze)) (r : Za × Bool) : Prop :=
 ∀ Zjb : List Ze, s = Zjb ++ Zer → i_6 = Zjb.length → AWL Tryz.prog 26 (Code.sub (Zq Tryz.f61) [1, 0, 1, 0, 0]) (Code.cont Tryz.prog 26 (Zq Tryz.f61) [1, 0, 1, 0] (ZbW tab Tryz.f61.results (ZbY (.tup [.agg [.v (.int .i64 r.1.fOp), .v (.string r.1.fName), .sl (r.1.fBound.fArgs.map Zk.cells), .sl (r.1.fKids.map Za.cells)], .c (.v (.bool r.2))]) []))) ⟨[(0, .c none (.sl (s.map Ze.cells))), (1, .c none (.v (.string name_))), (4, .ptr 4 0), (6, .c none (.v (.int .i64 ((i_6 : Nat) : Int))))], [(4, [(none, .v (.int .i64 0)), (none, .v (.string (ByteArray.mk #[]))), (none, .nils), (none, .nils)])]⟩
theorem Zma (s : (List Ze)) (name_ : ByteArray) (i_6 : Nat) (Zer : (List Ze)) : ∀ r, ZbC s name_ i_6 Zer = some r → ZbC.M s name_ i_6 Zer r := by
 refine ZbC.partial_correctness s name_ (fun i_6 Zer r => ZbC.M s name_ i_6 Zer r) ?_ i_6 Zer
 intro lazycref04_Find_l1' ZhO i_6 Zer r hF
 have Zl5 := fun (_s : (List Ze)) (_name_ : ByteArray) (i_6 : Nat) (Zer : (List Ze)) => ZhO i_6 Zer
 clear ZhO
 unfold ZbC.M
 intro Zjb ZrM Zrt
 refine AWL.step ?_
 refine AWP.seq ?_
 refine AWP.seq ?_
 refine ns ?_
 intro hlen38
 (try rw [List.length_map] at hlen38)
 (try rw [List.length_map])
 refine st ?_
 refine nw ?_
 refine ZN ZrM Zrt (fun x39 ZvH ZvM ZBz ZCP => ?_) (fun ZvM => ?_)
 ·subst ZvM
  refine nw ?_
  refine AWP.seq ?_
  refine AWP.block ?_
  refine AWP.seq ?_
  refine nn ?_
  refine sr (Zab (f := Ze.cells) (Ze.cells_eq x39) ZBz) ?_
  refine st ?_
  refine nw ?_
  refine Zi hF (fun ZvB hF => ?_) (fun ZvB hF => ?_)
  ·refine AWP.seq ?_
   refine nn ?_
   refine sr (Zab (f := Ze.cells) (Ze.cells_eq x39) ZBz) ?_
   refine st ?_
   obtain rfl := Zg hF
   refine ns ?_
   refine Exists.intro [] ?_
   refine st ?_
   exact wx (WS.mk (Zd (Zc9 (ZAl (lc (lc (lc (lc Zo)))) (ZcG (WE.refl _) Zda))) Zb) Zc)
  ·refine nw ?_
   refine ns ?_
   refine AWL.weak (rn []) ?_ (Zl5 s name_ (i_6 + 1) ZvH _ hF (Zjb ++ [x39]) (by rw [ZrM]; simp) (by rw [Zrt]; simp))
   exact (WS.mk (tc (tc (tp (Zd (Zr (Zdf (ZV hlen38 ZCP))) Zb)))) (Zf rfl (cc (cc (cc (cc Zh)))) Zc))
 ·subst ZvM
  refine nw ?_
  refine AWP.seq ?_
  refine ns ?_
  obtain rfl := Zg hF
  refine ns ?_
  refine Exists.intro [] ?_
  refine st ?_
  exact wx (WS.mk (Zd (Zc9 (ZAl (lc (lc (ZaR WE.nil (ZaR WE.nil Zo)))) (ZcG (WE.refl _) Zda))) Zb) Zc)

def Zb7 (s : (List Ze)) (name_ : ByteArray) : Option (Za × Bool) :=
 ZbC s name_ 0 s
def Zb7.M (s : (List Ze)) (name_ : ByteArray) (r : Za × Bool) : Prop :=
 Zj Tryz.prog 61 [.c none (.sl (s.map Ze.cells)), .c none (.v (.string name_))] [] (fun d b => d = .tup [.agg [.v (.int .i64 r.1.fOp), .v (.string r.1.fName), .sl (r.1.fBound.fArgs.map Zk.cells), .sl (r.1.fKids.map Za.cells)], .c (.v (.bool r.2))] ∧ b = [])
theorem Zg3 (s : (List Ze)) (name_ : ByteArray) (r : Za × Bool) (hF : Zb7 s name_ = some r) : Zb7.M s name_ r := by
 unfold Zb7 at hF
 unfold Zb7.M
 refine en Tryz.func61 ?_
 refine AWP.seq ?_
 refine ns ?_
 refine AWP.seq ?_
 refine AWP.seq ?_
 refine ns ?_
 refine AWP.block ?_
 refine AWP.loop ?_
 refine AWL.weak (rn []) ?_ (Zma s name_ 0 s _ hF ([]) rfl rfl)
 exact (WS.mk (tc (tc (tp (tc Zb)))) (Zf rfl (cc (cc (cc (cc Zh)))) Zc))

mutual
def ZaB (s : (List Ze)) (Z3 : (List ByteArray)) (t : Za) : Option (Int × Int) :=
 (if (t.fOp == 1) = true then Zbx Z3 t.fName >>= fun r53 =>
 some (!r53) else some false) >>= fun c54 =>
 if c54 = true then
 Zb7 s t.fName >>= fun r57 =>
 if r57.2 = true then
 ZaK r57.1 >>= fun r61 =>
 ZaH r57.1 >>= fun r62 =>
 some (r61, r62)
 else
 Z9 s Z3 t
 else
 Z9 s Z3 t
 partial_fixpoint
def Z9 (s : (List Ze)) (Z3 : (List ByteArray)) (t : Za) : Option (Int × Int) :=
 if (t.fOp == 4) = true then
 Z4 ((0 + Z3.length) * 16 ≤ 140737488355328) >>= fun _ =>
 Z4 ((Z3.length + ([t.fName]).length) * 16 ≤ 140737488355328) >>= fun _ =>
 Z8 s (Z3 ++ ([t.fName])) t
 else
 Z8 s Z3 t
 partial_fixpoint
def Z8 (s : (List Ze)) (ZA : (List ByteArray)) (t : Za) : Option (Int × Int) :=
 ZW s ZA 1 0 0 t t.fKids
 partial_fixpoint
def ZW (s : (List Ze)) (ZA : (List ByteArray)) (Zd6 : Int) (Zc5 : Int) (Zgh : Nat) (t : Za) (ZcI : (List Za)) : Option (Int × Int) :=
 (match ZcI with
 | x46 :: ZCX =>
 ZaB s ZA x46 >>= fun r49 =>
 ZW s ZA (IntKind.i64.wrap (Zd6 + r49.1)) (if r49.2 > Zc5 then r49.2 else Zc5) (Zgh + 1) t ZCX
 | [] =>
 some (Zd6, IntKind.i64.wrap (Zc5 + 1)))
 partial_fixpoint
end
def ZaB.M (s : (List Ze)) (Z3 : (List ByteArray)) (t : Za) (r : Int × Int) : Prop :=
 Zj Tryz.prog 38 [.c none (.sl (s.map Ze.cells)), .c none (.sl (Z3.map c_S)), .agg [.v (.int .i64 t.fOp), .v (.string t.fName), .sl (t.fBound.fArgs.map Zk.cells), .sl (t.fKids.map Za.cells)]] [] (fun d b => d = .tup [.c (.v (.int .i64 r.1)), .c (.v (.int .i64 r.2))] ∧ b = [])
def Z9.M (s : (List Ze)) (Z3 : (List ByteArray)) (t : Za) (r : Int × Int) : Prop :=
 AWP Tryz.prog 77 (Code.sub (Zq Tryz.f38) [1, 1]) (Code.cont Tryz.prog 77 (Zq Tryz.f38) [1, 1] (ZbW tab Tryz.f38.results (ZbY (.tup [.c (.v (.int .i64 r.1)), .c (.v (.int .i64 r.2))]) []))) ⟨[(0, .c none (.sl (s.map Ze.cells))), (1, .c none (.sl (Z3.map c_S))), (5, .ptr 5 0)], [(5, [(none, .v (.int .i64 t.fOp)), (none, .v (.string t.fName)), (none, .sl (t.fBound.fArgs.map Zk.cells)), (none, .sl (t.fKids.map Za.cells))])]⟩
def Z8.M (s : (List Ze)) (ZA : (List ByteArray)) (t : Za) (r : Int × Int) : Prop :=
 AWP Tryz.prog 77 (Code.sub (Zq Tryz.f38) [1, 1, 1]) (Code.cont Tryz.prog 77 (Zq Tryz.f38) [1, 1, 1] (ZbW tab Tryz.f38.results (ZbY (.tup [.c (.v (.int .i64 r.1)), .c (.v (.int .i64 r.2))]) []))) ⟨[(0, .c none (.sl (s.map Ze.cells))), (1, .c none (.sl (ZA.map c_S))), (5, .ptr 5 0)], [(5, [(none, .v (.int .i64 t.fOp)), (none, .v (.string t.fName)), (none, .sl (t.fBound.fArgs.map Zk.cells)), (none, .sl (t.fKids.map Za.cells))])]⟩
def ZW.M (s : (List Ze)) (ZA : (List ByteArray)) (Zd6 : Int) (Zc5 : Int) (Zgh : Nat) (t : Za) (ZcI : (List Za)) (r : Int × Int) : Prop :=
 ∀ ZhC : List Za, t.fKids = ZhC ++ ZcI → Zgh = ZhC.length → AWL Tryz.prog 77 (Code.sub (Zq Tryz.f38) [1, 1, 1, 1, 0, 1, 0, 0]) (Code.cont Tryz.prog 77 (Zq Tryz.f38) [1, 1, 1, 1, 0, 1, 0] (ZbW tab Tryz.f38.results (ZbY (.tup [.c (.v (.int .i64 r.1)), .c (.v (.int .i64 r.2))]) []))) ⟨[(0, .c none (.sl (s.map Ze.cells))), (1, .c none (.sl (ZA.map c_S))), (5, .ptr 5 0), (11, .c none (.v (.int .i64 Zd6))), (12, .c none (.v (.int .i64 Zc5))), (13, .c none (.v (.int .i64 ((Zgh : Nat) : Int))))], [(5, [(none, .v (.int .i64 t.fOp)), (none, .v (.string t.fName)), (none, .sl (t.fBound.fArgs.map Zk.cells)), (none, .sl (t.fKids.map Za.cells))])]⟩
theorem Zeg (s : (List Ze)) : (∀ (Z3 : (List ByteArray)) (t : Za), ∀ r, ZaB s Z3 t = some r → ZaB.M s Z3 t r) ∧ (∀ (Z3 : (List ByteArray)) (t : Za), ∀ r, Z9 s Z3 t = some r → Z9.M s Z3 t r) ∧ (∀ (ZA : (List ByteArray)) (t : Za), ∀ r, Z8 s ZA t = some r → Z8.M s ZA t r) ∧ (∀ (ZA : (List ByteArray)) (Zd6 : Int) (Zc5 : Int) (Zgh : Nat) (t : Za) (ZcI : (List Za)), ∀ r, ZW s ZA Zd6 Zc5 Zgh t ZcI = some r → ZW.M s ZA Zd6 Zc5 Zgh t ZcI r) := by
 refine ZaB.mutual_partial_correctness s (fun Z3 t r => ZaB.M s Z3 t r) (fun Z3 t r => Z9.M s Z3 t r) (fun ZA t r => Z8.M s ZA t r) (fun ZA Zd6 Zc5 Zgh t ZcI r => ZW.M s ZA Zd6 Zc5 Zgh t ZcI r) ?_ ?_ ?_ ?_
 ·intro lazycref04_measure_k1' Zgm Z3 t r hF
  have ZgB := fun (_s : (List Ze)) (Z3 : (List ByteArray)) (t : Za) => Zgm Z3 t
  clear Zgm
  unfold ZaB.M
  refine en Tryz.func38 ?_
  refine AWP.seq ?_
  refine ns ?_
  refine AWP.seq ?_
  refine AWP.seq ?_
  obtain ⟨c54, ZiH, hF⟩ := bind_some hF
  refine AWP.cutN (fun T => ∃ r, WS r T ⟨[(0, .c none (.sl (s.map Ze.cells))), (1, .c none (.sl (Z3.map c_S))), (5, .ptr 5 0), (25, .c none (.v (.bool c54)))], [(5, [(none, .v (.int .i64 t.fOp)), (none, .v (.string t.fName)), (none, .sl (t.fBound.fArgs.map Zk.cells)), (none, .sl (t.fKids.map Za.cells))])]⟩) ?_ (fun T hw => ?_)
  ·refine ns ?_
   refine Zm true (fun Ztb => ?_) (fun Ztb => ?_)
   ·have ZiH := ift Ztb ZiH
    obtain ⟨r53, Zzu, ZiH⟩ := bind_some ZiH
    (conv => whnf)
    refine st ?_
    refine e3 ?_
    refine st ?_
    refine cm (Zj.weak (rn []) (ZeV Z3 t.fName _ Zzu) rfl (WS.mk (tc (tc Zb)) Zc)) ?_
    refine st ?_
    obtain rfl := Zg ZiH
    refine st ?_
    exact wx (WS.mk (tc (tc (tp (Zd (Zr (web Ztb)) Zb)))) (Zf rfl (cc (cc (cc (cc Zh)))) Zc))
   ·have ZiH := ife Ztb ZiH
    (conv => whnf)
    obtain rfl := Zg ZiH
    refine st ?_
    exact wx (WS.mk (tc (tc (tp (Zd (Zr (web Ztb)) Zb)))) (Zf rfl (cc (cc (cc (cc Zh)))) Zc))
  obtain ⟨r0, hw⟩ := hw
  (conv => whnf)
  refine AWP.weak r0 hw ?_
  refine nw ?_
  refine Zi hF (fun ZkZ hF => ?_) (fun ZkZ hF => ?_)
  ·refine AWP.seq ?_
   obtain ⟨r57, ZIb, hF⟩ := bind_some hF
   refine ns ?_
   refine e3 ?_
   refine st ?_
   refine cm (Zj.weak (rn []) (Zg3 s t.fName _ ZIb) rfl (WS.mk (tc (tc Zb)) Zc)) ?_
   refine st ?_
   refine AWP.seq ?_
   refine ns ?_
   refine nw ?_
   refine Zi hF (fun Zm4 hF => ?_) (fun Zm4 hF => ?_)
   ·refine AWP.seq ?_
    obtain ⟨r61, ZAj, hF⟩ := bind_some hF
    obtain ⟨r62, ZDw, hF⟩ := bind_some hF
    refine nn ?_
    refine Or.inr (Exists.intro [2] (Exists.intro [[36]] (Exists.intro [8] (Exists.intro [8, 36] (Exists.intro [36] (Exists.intro [0, 1, 3, 4, 5] (And.intro (by decide +kernel) ?_)))))))
    refine dp ?_
    refine st ?_
    refine e3 ?_
    refine st ?_
    refine cm (Zj.weak (rn []) (ZgZ r57.1 _ ZAj) rfl (WS.mk (Zd (Zt (lc (lc (lc (lc Zo))))) Zb) Zc)) ?_
    refine st ?_
    refine e3 ?_
    refine st ?_
    refine cm (Zj.weak (rn []) (Zgt r57.1 _ ZDw) rfl (WS.mk (Zd (Zt (lc (lc (lc (lc Zo))))) Zb) Zc)) ?_
    refine st ?_
    obtain rfl := Zg hF
    refine ns ?_
    refine Exists.intro [] ?_
    refine st ?_
    exact wx (WS.mk (Zd (Zc9 (ZcG (WE.refl _) (ZcG (WE.refl _) Zda))) Zb) Zc)
   ·refine nw ?_
    refine AWP.weak (rn []) ?_ (ZgB s Z3 t _ hF)
    exact (WS.mk (tc (tc (tp Zb))) (Zf rfl (cc (cc (cc (cc Zh)))) Zc))
  ·refine nw ?_
   refine AWP.weak (rn []) ?_ (ZgB s Z3 t _ hF)
   exact (WS.mk (tc (tc (tp Zb))) (Zf rfl (cc (cc (cc (cc Zh)))) Zc))
 ·intro lazycref04_measure_k2' Zgn Z3 t r hF
  have ZgM := fun (_s : (List Ze)) (ZA : (List ByteArray)) (t : Za) => Zgn ZA t
  clear Zgn
  unfold Z9.M
  refine AWP.seq ?_
  refine AWP.seq ?_
  refine ns ?_
  refine nw ?_
  refine Zi hF (fun ZC5 hF => ?_) (fun ZC5 hF => ?_)
  ·refine AWP.seq ?_
   refine ns ?_
   refine AWP.seq ?_
   obtain ⟨ZGR, hF⟩ := Zy hF
   refine nn ?_
   refine sa (fun l => ZbO l (fun x => ZfK x)) ZGR ?_
   refine Exists.intro _ (And.intro (WE.refl _) ?_)
   (try rw [List.nil_append])
   refine st ?_
   refine AWP.seq ?_
   obtain ⟨ZIl, hF⟩ := Zy hF
   refine ns ?_
   refine Exists.intro _ (And.intro (Zbs (f := c_S) (lc Zo) (ZY (f := c_S))) ?_)
   refine sa (fun l => ZbO l (fun x => ZfK x)) ZIl ?_
   refine Exists.intro _ (And.intro (WE.refl _) ?_)
   rw [← List.map_append]
   refine st ?_
   refine ns ?_
   refine AWP.weak (rn []) ?_ (ZgM s (Z3 ++ ([t.fName])) t _ hF)
   exact (WS.mk (tc (tc (tp Zb))) (Zf rfl (cc (cc (cc (cc Zh)))) Zc))
  ·refine nw ?_
   refine AWP.weak (rn []) ?_ (ZgM s Z3 t _ hF)
   exact (WS.mk (tc (tc (tp Zb))) (Zf rfl (cc (cc (cc (cc Zh)))) Zc))
 ·intro lazycref04_measure_l3' Zc6 ZA t r hF
  have Ze0 := fun (_s : (List Ze)) (ZA : (List ByteArray)) (Zd6 : Int) (Zc5 : Int) (Zgh : Nat) (t : Za) (ZcI : (List Za)) => Zc6 ZA Zd6 Zc5 Zgh t ZcI
  clear Zc6
  unfold Z8.M
  refine AWP.seq ?_
  refine ns ?_
  refine AWP.seq ?_
  refine AWP.seq ?_
  refine ns ?_
  refine AWP.block ?_
  refine AWP.loop ?_
  refine AWL.weak (rn []) ?_ (Ze0 s ZA 1 0 0 t t.fKids _ hF ([]) rfl rfl)
  exact (WS.mk (tc (tc (tp (tc (tc (tc Zb)))))) (Zf rfl (cc (cc (cc (cc Zh)))) Zc))
 ·intro lazycref04_measure' lazycref04_measure_l3' ZhA Zc6 ZA Zd6 Zc5 Zgh t ZcI r hF
  have Zl8 := fun (_s : (List Ze)) (Z3 : (List ByteArray)) (t : Za) => ZhA Z3 t
  clear ZhA
  have Ze0 := fun (_s : (List Ze)) (ZA : (List ByteArray)) (Zd6 : Int) (Zc5 : Int) (Zgh : Nat) (t : Za) (ZcI : (List Za)) => Zc6 ZA Zd6 Zc5 Zgh t ZcI
  clear Zc6
  unfold ZW.M
  intro ZhC ZoO ZoB
  refine AWL.step ?_
  refine AWP.seq ?_
  refine AWP.seq ?_
  refine ns ?_
  intro hlen45
  (try rw [List.length_map] at hlen45)
  (try rw [List.length_map])
  refine st ?_
  refine nw ?_
  refine ZN ZoO ZoB (fun x46 ZCX ZCF ZG1 ZH8 => ?_) (fun ZCF => ?_)
  ·subst ZCF
   refine nw ?_
   refine AWP.seq ?_
   refine AWP.block ?_
   refine AWP.seq ?_
   obtain ⟨r49, ZHL, hF⟩ := bind_some hF
   refine nn ?_
   refine sr (Zab (f := Za.cells) (Za.cells_eq x46) ZG1) ?_
   refine st ?_
   refine e3 ?_
   refine st ?_
   refine cm (Zj.weak (rn []) (Zl8 s ZA x46 _ ZHL) rfl (WS.mk (tc (tc (Zd (Zt (lc (lc (lc (lc Zo))))) Zb))) Zc)) ?_
   refine st ?_
   refine AWP.seq ?_
   refine ns ?_
   refine ns ?_
   refine ns ?_
   refine AWL.weak (rn []) ?_ (Ze0 s ZA (IntKind.i64.wrap (Zd6 + r49.1)) (if r49.2 > Zc5 then r49.2 else Zc5) (Zgh + 1) t ZCX _ hF (ZhC ++ [x46]) (by rw [ZoO]; simp) (by rw [ZoB]; simp))
   exact (WS.mk (tc (tc (tp (tc (tc (Zd (Zr (Zdf (ZV hlen45 ZH8))) Zb)))))) (Zf rfl (cc (cc (cc (cc Zh)))) Zc))
  ·subst ZCF
   refine nw ?_
   refine AWP.seq ?_
   refine ns ?_
   obtain rfl := Zg hF
   refine ns ?_
   refine Exists.intro [] ?_
   refine st ?_
   exact wx (WS.mk (Zd (Zc9 (ZcG (WE.refl _) (ZcG (WE.refl _) Zda))) Zb) Zc)
theorem Zl4 : ∀ (s : (List Ze)) (Z3 : (List ByteArray)) (t : Za), ∀ r, ZaB s Z3 t = some r → ZaB.M s Z3 t r := fun s Z3 t => (Zeg s).1 Z3 t
theorem lazycref04_measure_k1_ok : ∀ (s : (List Ze)) (Z3 : (List ByteArray)) (t : Za), ∀ r, Z9 s Z3 t = some r → Z9.M s Z3 t r := fun s Z3 t => (Zeg s).2.1 Z3 t
theorem lazycref04_measure_k2_ok : ∀ (s : (List Ze)) (ZA : (List ByteArray)) (t : Za), ∀ r, Z8 s ZA t = some r → Z8.M s ZA t r := fun s ZA t => (Zeg s).2.2.1 ZA t
theorem lazycref04_measure_l3_ok : ∀ (s : (List Ze)) (ZA : (List ByteArray)) (Zd6 : Int) (Zc5 : Int) (Zgh : Nat) (t : Za) (ZcI : (List Za)), ∀ r, ZW s ZA Zd6 Zc5 Zgh t ZcI = some r → ZW.M s ZA Zd6 Zc5 Zgh t ZcI r := fun s ZA Zd6 Zc5 Zgh t ZcI => (Zeg s).2.2.2 ZA Zd6 Zc5 Zgh t ZcI

def Zb1 (avoid : (List ByteArray)) (b_5 : ByteArray) (k_8 : Nat) : Option (ByteArray) :=
 Zdq b_5 ((k_8 : Nat) : Int) >>= fun r39 =>
 Zbx avoid r39 >>= fun r40 =>
 if r40 = true then
 Z4 (k_8 + 1 ≤ 9223372036854775807) >>= fun _ =>
 Zb1 avoid b_5 (k_8 + 1)
 else
 Zdq b_5 ((k_8 : Nat) : Int) >>= fun r43 =>
 some r43
 partial_fixpoint
def Zb1.M (avoid : (List ByteArray)) (b_5 : ByteArray) (k_8 : Nat) (r : ByteArray) : Prop :=
 AWL Tryz.prog 28 (Code.sub (Zq Tryz.f63) [1, 1, 1, 1, 0, 0, 0]) (Code.cont Tryz.prog 28 (Zq Tryz.f63) [1, 1, 1, 1, 0, 0] (ZbW tab Tryz.f63.results (ZbY (.c none (.v (.string r))) []))) ⟨[(1, .c none (.sl (avoid.map c_S))), (5, .c none (.v (.string b_5))), (8, .c none (.v (.int .i64 ((k_8 : Nat) : Int))))], []⟩
theorem Zkw (avoid : (List ByteArray)) (b_5 : ByteArray) (k_8 : Nat) : ∀ r, Zb1 avoid b_5 k_8 = some r → Zb1.M avoid b_5 k_8 r := by
 refine Zb1.partial_correctness avoid b_5 (fun k_8 r => Zb1.M avoid b_5 k_8 r) ?_ k_8
 intro lazycref04_Renamed_l2' Zgj k_8 r hF
 have Zkm := fun (_avoid : (List ByteArray)) (_b_5 : ByteArray) (k_8 : Nat) => Zgj k_8
 clear Zgj
 unfold Zb1.M
 refine AWL.step ?_
 refine AWP.seq ?_
 refine AWP.seq ?_
 obtain ⟨r39, ZDa, hF⟩ := bind_some hF
 obtain ⟨r40, ZHJ, hF⟩ := bind_some hF
 refine ns ?_
 refine e3 ?_
 refine st ?_
 refine cm (Zj.weak (rn []) (ZjJ b_5 ((k_8 : Nat) : Int) _ ZDa) rfl (WS.mk (tc (tc Zb)) Zc)) ?_
 refine st ?_
 refine e3 ?_
 refine st ?_
 refine cm (Zj.weak (rn []) (ZeV avoid r39 _ ZHJ) rfl (WS.mk (tc (tc Zb)) Zc)) ?_
 refine st ?_
 refine nw ?_
 refine Zi hF (fun Zv9 hF => ?_) (fun Zv9 hF => ?_)
 ·refine nw ?_
  refine AWP.block ?_
  obtain ⟨ZHe, hF⟩ := Zy hF
  refine ns ?_
  refine AWL.weak (rn []) ?_ (Zkm avoid b_5 (k_8 + 1) _ hF)
  exact (WS.mk (tc (tc (Zd (Zr (Zdf (Zdv ZHe))) Zb))) Zc)
 ·refine nw ?_
  refine AWP.seq ?_
  obtain ⟨r43, ZCp, hF⟩ := bind_some hF
  refine ns ?_
  refine e3 ?_
  refine st ?_
  refine cm (Zj.weak (rn []) (ZjJ b_5 ((k_8 : Nat) : Int) _ ZCp) rfl (WS.mk (tc (tc Zb)) Zc)) ?_
  refine st ?_
  obtain rfl := Zg hF
  refine ns ?_
  refine Exists.intro [] ?_
  refine st ?_
  exact wx (WS.mk (tc Zb) Zc)

def ZcF (avoid : (List ByteArray)) (b_5 : ByteArray) : Option (ByteArray) :=
 Zb1 avoid b_5 1
def ZcF.M (avoid : (List ByteArray)) (b_5 : ByteArray) (r : ByteArray) : Prop :=
 AWP Tryz.prog 28 (Code.sub (Zq Tryz.f63) [1, 1, 1]) (Code.cont Tryz.prog 28 (Zq Tryz.f63) [1, 1, 1] (ZbW tab Tryz.f63.results (ZbY (.c none (.v (.string r))) []))) ⟨[(1, .c none (.sl (avoid.map c_S))), (5, .c none (.v (.string b_5)))], []⟩
theorem ZgQ (avoid : (List ByteArray)) (b_5 : ByteArray) (r : ByteArray) (hF : ZcF avoid b_5 = some r) : ZcF.M avoid b_5 r := by
 unfold ZcF at hF
 unfold ZcF.M
 refine AWP.seq ?_
 refine ns ?_
 refine AWP.seq ?_
 refine AWP.block ?_
 refine AWP.loop ?_
 refine AWL.weak (rn []) ?_ (Zkw avoid b_5 1 _ hF)
 exact (WS.mk (tc (tc (tc Zb))) Zc)

def ZdQ (name_ : ByteArray) (avoid : (List ByteArray)) : Option (ByteArray) :=
 ZcV name_ >>= fun r1 =>
 if (!r1.2.2) = true then
 ZcF avoid name_
 else
 ZcF avoid r1.1
def ZdQ.M (name_ : ByteArray) (avoid : (List ByteArray)) (r : ByteArray) : Prop :=
 Zj Tryz.prog 63 [.c none (.v (.string name_)), .c none (.sl (avoid.map c_S))] [] (fun d b => d = .c none (.v (.string r)) ∧ b = [])
theorem Zl7 (name_ : ByteArray) (avoid : (List ByteArray)) (r : ByteArray) (hF : ZdQ name_ avoid = some r) : ZdQ.M name_ avoid r := by
 unfold ZdQ at hF
 unfold ZdQ.M
 refine en Tryz.func63 ?_
 refine AWP.seq ?_
 refine ns ?_
 refine AWP.seq ?_
 obtain ⟨r1, hr1, hF⟩ := bind_some hF
 refine ns ?_
 refine e3 ?_
 refine st ?_
 refine cm (Zj.weak (rn []) (Zg4 name_ _ hr1) rfl (WS.mk (tc Zb) Zc)) ?_
 refine st ?_
 refine AWP.seq ?_
 refine AWP.seq ?_
 refine ns ?_
 refine nw ?_
 refine Zi hF (fun ZIN hF => ?_) (fun ZIN hF => ?_)
 ·refine ns ?_
  refine AWP.weak (rn []) ?_ (ZgQ avoid name_ _ hF)
  exact (WS.mk (tc (tc Zb)) Zc)
 ·refine nw ?_
  refine AWP.weak (rn []) ?_ (ZgQ avoid r1.1 _ hF)
  exact (WS.mk (tc (tc Zb)) Zc)

def Ze7 (name_ : ByteArray) : Option (Za) :=
 some (Za.mk 1 name_ (Zk.mk ([] : List Zk)) ([] : List Za))
def Ze7.M (name_ : ByteArray) (r : Za) : Prop :=
 Zj Tryz.prog 64 [.c none (.v (.string name_))] [] (fun d b => d = .agg [.v (.int .i64 r.fOp), .v (.string r.fName), .sl (r.fBound.fArgs.map Zk.cells), .sl (r.fKids.map Za.cells)] ∧ b = [])
theorem ZoP (name_ : ByteArray) (r : Za) (hF : Ze7 name_ = some r) : Ze7.M name_ r := by
 unfold Ze7 at hF
 unfold Ze7.M
 refine en Tryz.func64 ?_
 refine AWP.seq ?_
 refine ns ?_
 refine AWP.seq ?_
 refine ns ?_
 obtain rfl := Zg hF
 refine ns ?_
 refine Exists.intro [] ?_
 refine st ?_
 exact wx (WS.mk (Zd (Zt (lc (lc (ZaR WE.nil (ZaR WE.nil Zo))))) Zb) Zc)

def Zeu (f : Za) (x : Za) : Option (Za) :=
 some (Za.mk 3 (ByteArray.mk #[]) (Zk.mk ([] : List Zk)) ([f, x]))
def Zeu.M (f : Za) (x : Za) (r : Za) : Prop :=
 Zj Tryz.prog 62 [.agg [.v (.int .i64 f.fOp), .v (.string f.fName), .sl (f.fBound.fArgs.map Zk.cells), .sl (f.fKids.map Za.cells)], .agg [.v (.int .i64 x.fOp), .v (.string x.fName), .sl (x.fBound.fArgs.map Zk.cells), .sl (x.fKids.map Za.cells)]] [] (fun d b => d = .agg [.v (.int .i64 r.fOp), .v (.string r.fName), .sl (r.fBound.fArgs.map Zk.cells), .sl (r.fKids.map Za.cells)] ∧ b = [])
theorem ZoZ (f : Za) (x : Za) (r : Za) (hF : Zeu f x = some r) : Zeu.M f x r := by
 unfold Zeu at hF
 unfold Zeu.M
 refine en Tryz.func62 ?_
 refine AWP.seq ?_
 refine ns ?_
 refine AWP.seq ?_
 refine ns ?_
 refine Exists.intro _ (And.intro (Zbs (f := Za.cells) (ZdA (Za.cells_eq f) (lc (lc (lc (lc Zo))))) (Zbs (f := Za.cells) (ZdA (Za.cells_eq x) (lc (lc (lc (lc Zo))))) (ZY (f := Za.cells)))) ?_)
 refine st ?_
 obtain rfl := Zg hF
 refine ns ?_
 refine Exists.intro [] ?_
 refine st ?_
 exact wx (WS.mk (Zd (Zt (lc (lc (ZaR WE.nil (lc Zo))))) Zb) Zc)

mutual
def Zao (s : (List Ze)) (t : Za) : Option (Za) :=
 if (t.fOp == 1) = true then
 Zb7 s t.fName >>= fun ZDZ =>
 if ZDZ.2 = true then
 some ZDZ.1
 else
 some t
 else
 if (t.fOp == 3) = true then
 (ixI t.fKids 1) >>= fun ZxX =>
 (ixI t.fKids 0) >>= fun ZxT =>
 Zao s ZxT >>= fun ZAo =>
 Zao s ZxX >>= fun Zy2 =>
 Zeu ZAo Zy2 >>= fun ZBa =>
 some ZBa
 else
 if (t.fOp == 4) = true then
 (ixI t.fKids 0) >>= fun ZeF =>
 Zak ([] : List ByteArray) ([] : List ByteArray) ZeF >>= fun ZiQ =>
 ZbJ s ZiQ ([]) ([]) 0 t ZeF ZiQ
 else
 some t
 partial_fixpoint
def ZbJ (s : (List Ze)) (ZiQ : ((List ByteArray))) (Zel : (List Ze)) (Zc3 : (List ByteArray)) (Zhk : Nat) (t : Za) (ZeF : Za) (ZdF : (List ByteArray)) : Option (Za) :=
 (match ZdF with
 | Zrr :: Zup =>
 Zb7 s Zrr >>= fun ZpQ =>
 if (ZpQ.2 && (!(Zrr.toList == t.fName.toList))) = true then
 Z4 ((Zel.length + ([(Ze.mk Zrr ZpQ.1)]).length) * 88 ≤ 140737488355328) >>= fun _ =>
 Zak Zc3 ([] : List ByteArray) ZpQ.1 >>= fun ZC3 =>
 ZbJ s ZiQ (Zel ++ ([(Ze.mk Zrr ZpQ.1)])) ZC3 (Zhk + 1) t ZeF Zup
 else
 ZbJ s ZiQ Zel Zc3 (Zhk + 1) t ZeF Zup
 | [] =>
 Zbx Zc3 t.fName >>= fun ZFf =>
 if ZFf = true then
 Z4 ((0 + ZiQ.length) * 16 ≤ 140737488355328) >>= fun _ =>
 Z4 ((ZiQ.length + Zc3.length) * 16 ≤ 140737488355328) >>= fun _ =>
 ZdQ t.fName (ZiQ ++ Zc3) >>= fun ZyN =>
 Ze7 ZyN >>= fun Zzo =>
 Z4 ((Zel.length + ([(Ze.mk t.fName Zzo)]).length) * 88 ≤ 140737488355328) >>= fun _ =>
 Zb3 (Zel ++ ([(Ze.mk t.fName Zzo)])) ZyN t ZeF
 else
 Zb3 Zel t.fName t ZeF)
 partial_fixpoint
def Zb3 (Zel : (List Ze)) (Ziu : ByteArray) (t : Za) (ZeF : Za) : Option (Za) :=
 Zao Zel ZeF >>= fun ZDT =>
 some (Za.mk 4 Ziu t.fBound ([ZDT]))
 partial_fixpoint
end
def Zao.M (s : (List Ze)) (t : Za) (r : Za) : Prop :=
 Zj Tryz.prog 39 [.c none (.sl (s.map Ze.cells)), .agg [.v (.int .i64 t.fOp), .v (.string t.fName), .sl (t.fBound.fArgs.map Zk.cells), .sl (t.fKids.map Za.cells)]] [] (fun d b => d = .agg [.v (.int .i64 r.fOp), .v (.string r.fName), .sl (r.fBound.fArgs.map Zk.cells), .sl (r.fKids.map Za.cells)] ∧ b = [])
def ZbJ.M (s : (List Ze)) (ZiQ : ((List ByteArray))) (Zel : (List Ze)) (Zc3 : (List ByteArray)) (Zhk : Nat) (t : Za) (ZeF : Za) (ZdF : (List ByteArray)) (r : Za) : Prop :=
 ∀ ZgD : List ByteArray, ZiQ = ZgD ++ ZdF → Zhk = ZgD.length → AWL Tryz.prog 122 (Code.sub (Zq Tryz.f39) [1, 0, 1, 0, 1, 1, 1, 1, 1, 0, 1, 1, 1, 1, 0, 1, 0, 0]) (Code.cont Tryz.prog 122 (Zq Tryz.f39) [1, 0, 1, 0, 1, 1, 1, 1, 1, 0, 1, 1, 1, 1, 0, 1, 0] (ZbW tab Tryz.f39.results (ZbY (.agg [.v (.int .i64 r.fOp), .v (.string r.fName), .sl (r.fBound.fArgs.map Zk.cells), .sl (r.fKids.map Za.cells)]) []))) ⟨[(0, .c none (.sl (s.map Ze.cells))), (3, .ptr 3 0), (4, .ptr 4 0), (7, .ptr 7 0), (8, .c (some (8, 9)) (.sl (ZiQ.map c_S))), (9, .c (some (9, 45)) (.sl (Zel.map Ze.cells))), (10, .c (some (10, 9)) (.sl (Zc3.map c_S))), (11, .c none (.v (.int .i64 ((Zhk : Nat) : Int))))], [(3, [(none, .v (.int .i64 t.fOp)), (none, .v (.string t.fName)), (none, .sl (t.fBound.fArgs.map Zk.cells)), (none, .sl (t.fKids.map Za.cells))]), (4, [(none, .v (.int .i64 0)), (none, .v (.string (ByteArray.mk #[]))), (none, .nils), (none, .nils)]), (7, [(none, .v (.int .i64 ZeF.fOp)), (none, .v (.string ZeF.fName)), (none, .sl (ZeF.fBound.fArgs.map Zk.cells)), (none, .sl (ZeF.fKids.map Za.cells))])]⟩
def Zb3.M (Zel : (List Ze)) (Ziu : ByteArray) (t : Za) (ZeF : Za) (r : Za) : Prop :=
 AWP Tryz.prog 122 (Code.sub (Zq Tryz.f39) [1, 0, 1, 0, 1, 1, 1, 1, 1, 0, 1, 1, 1, 1, 1, 1, 1]) (Code.cont Tryz.prog 122 (Zq Tryz.f39) [1, 0, 1, 0, 1, 1, 1, 1, 1, 0, 1, 1, 1, 1, 1, 1, 1] (ZbW tab Tryz.f39.results (ZbY (.agg [.v (.int .i64 r.fOp), .v (.string r.fName), .sl (r.fBound.fArgs.map Zk.cells), .sl (r.fKids.map Za.cells)]) []))) ⟨[(3, .ptr 3 0), (4, .ptr 4 0), (7, .ptr 7 0), (9, .c (some (9, 45)) (.sl (Zel.map Ze.cells))), (14, .c none (.v (.string Ziu)))], [(3, [(none, .v (.int .i64 t.fOp)), (none, .v (.string t.fName)), (none, .sl (t.fBound.fArgs.map Zk.cells)), (none, .sl (t.fKids.map Za.cells))]), (4, [(none, .v (.int .i64 0)), (none, .v (.string (ByteArray.mk #[]))), (none, .nils), (none, .nils)]), (7, [(none, .v (.int .i64 ZeF.fOp)), (none, .v (.string ZeF.fName)), (none, .sl (ZeF.fBound.fArgs.map Zk.cells)), (none, .sl (ZeF.fKids.map Za.cells))])]⟩
theorem Zf7 : (∀ (s : (List Ze)) (t : Za), ∀ r, Zao s t = some r → Zao.M s t r) ∧ (∀ (s : (List Ze)) (ZiQ : ((List ByteArray))) (Zel : (List Ze)) (Zc3 : (List ByteArray)) (Zhk : Nat) (t : Za) (ZeF : Za) (ZdF : (List ByteArray)), ∀ r, ZbJ s ZiQ Zel Zc3 Zhk t ZeF ZdF = some r → ZbJ.M s ZiQ Zel Zc3 Zhk t ZeF ZdF r) ∧ (∀ (Zel : (List Ze)) (Ziu : ByteArray) (t : Za) (ZeF : Za), ∀ r, Zb3 Zel Ziu t ZeF = some r → Zb3.M Zel Ziu t ZeF r) := by
 refine Zao.mutual_partial_correctness Zao.M ZbJ.M Zb3.M ?_ ?_ ?_
 ·intro lazycref04_subst' lazycref04_subst_l1' Ze5 Zek s t r hF
  unfold Zao.M
  refine en Tryz.func39 ?_
  refine AWP.seq ?_
  refine ns ?_
  refine AWP.seq ?_
  refine AWP.seq ?_
  refine ns ?_
  refine AWP.block ?_
  refine AWP.seq ?_
  refine ns ?_
  refine nw ?_
  refine Zi hF (fun ZsC hF => ?_) (fun ZsC hF => ?_)
  ·refine AWP.seq ?_
   obtain ⟨ZDZ, ZF4, hF⟩ := bind_some hF
   refine ns ?_
   refine e3 ?_
   refine st ?_
   refine cm (Zj.weak (rn []) (Zg3 s t.fName _ ZF4) rfl (WS.mk (tc (tc Zb)) Zc)) ?_
   refine st ?_
   refine AWP.seq ?_
   refine AWP.seq ?_
   refine ns ?_
   refine nw ?_
   refine Zi hF (fun ZyT hF => ?_) (fun ZyT hF => ?_)
   ·refine AWP.seq ?_
    refine ns ?_
    obtain rfl := Zg hF
    refine ns ?_
    refine Exists.intro [] ?_
    refine st ?_
    exact wx (WS.mk (Zd (Zt (lc (lc (lc (lc Zo))))) Zb) Zc)
   ·refine nw ?_
    refine AWP.seq ?_
    refine ns ?_
    obtain rfl := Zg hF
    refine ns ?_
    refine Exists.intro [] ?_
    refine st ?_
    exact wx (WS.mk (Zd (Zt (lc (lc (lc (lc Zo))))) Zb) Zc)
  ·refine AWP.seq ?_
   refine ns ?_
   refine nw ?_
   refine Zi hF (fun ZEO hF => ?_) (fun ZEO hF => ?_)
   ·refine AWP.seq ?_
    obtain ⟨ZxX, hx1290, ZGt, hF⟩ := ZcL hF
    obtain ⟨ZxT, hx1300, ZET, hF⟩ := ZcL hF
    obtain ⟨ZAo, ZFl, hF⟩ := bind_some hF
    obtain ⟨Zy2, ZF5, hF⟩ := bind_some hF
    obtain ⟨ZBa, ZGD, hF⟩ := bind_some hF
    refine nn ?_
    refine Or.inr (Exists.intro [0, 6, 7, 8, 9, 10] (Exists.intro [[32, 38, 39, 40, 41, 42], [32, 38, 39, 40, 41, 42], [32, 38, 39, 40, 41, 42], [32, 38, 40, 41, 42], [32, 38, 41, 42], [32, 38, 42]] (Exists.intro [3] (Exists.intro [0, 3, 32, 38, 39, 40, 41, 42] (Exists.intro [32, 38, 39, 40, 41, 42] (Exists.intro [1, 2, 3, 4, 5, 11, 12, 13] (And.intro (by decide +kernel) ?_)))))))
    refine dp ?_
    refine dp ?_
    refine dp ?_
    refine dp ?_
    refine dr (ZbX (Za.cells_eq ZxX) ZGt) ?_
    refine dp ?_
    refine sr (ZbX (f := Za.cells) (Za.cells_eq ZxT) ZET) ?_
    refine st ?_
    refine e3 ?_
    refine st ?_
    refine cm (Zj.weak (rn []) (Ze5 s ZxT _ ZFl) rfl (WS.mk (tc (Zd (Zt (lc (lc (lc (lc Zo))))) Zb)) Zc)) ?_
    refine st ?_
    refine e3 ?_
    refine st ?_
    refine cm (Zj.weak (rn []) (Ze5 s ZxX _ ZF5) rfl (WS.mk (tc (Zd (Zt (lc (lc (lc (lc Zo))))) Zb)) Zc)) ?_
    refine st ?_
    refine e3 ?_
    refine st ?_
    refine cm (Zj.weak (rn []) (ZoZ ZAo Zy2 _ ZGD) rfl (WS.mk (Zd (Zt (lc (lc (lc (lc Zo))))) (Zd (Zt (lc (lc (lc (lc Zo))))) Zb)) Zc)) ?_
    refine st ?_
    obtain rfl := Zg hF
    refine ns ?_
    refine Exists.intro [] ?_
    refine st ?_
    exact wx (WS.mk (Zd (Zt (lc (lc (lc (lc Zo))))) Zb) Zc)
   ·refine AWP.seq ?_
    refine ns ?_
    refine nw ?_
    refine Zi hF (fun ZGK hF => ?_) (fun ZGK hF => ?_)
    ·refine AWP.seq ?_
     obtain ⟨ZeF, hx1350, ZGy, hF⟩ := ZcL hF
     refine nn ?_
     refine sr (ZbX (f := Za.cells) (Za.cells_eq ZeF) ZGy) ?_
     refine st ?_
     refine AWP.seq ?_
     obtain ⟨ZiQ, ZGe, hF⟩ := bind_some hF
     refine ns ?_
     refine e3 ?_
     refine st ?_
     refine cm (Zj.weak (rn []) (ZfH ([] : List ByteArray) ([] : List ByteArray) ZeF _ ZGe) rfl (WS.mk (Zd ZjT (Zd (Zr WE.nil) (Zd (Zt (lc (lc (lc (lc Zo))))) Zb))) Zc)) ?_
     refine st ?_
     refine AWP.seq ?_
     refine ns ?_
     refine AWP.seq ?_
     refine ns ?_
     refine AWP.seq ?_
     refine AWP.seq ?_
     refine ns ?_
     refine AWP.block ?_
     refine AWP.loop ?_
     refine AWL.weak (rn [(52, 8)]) ?_ (Zek s ZiQ ([]) ([]) 0 t ZeF ZiQ _ hF ([]) rfl rfl)
     exact (WS.mk (tc (tp (tp (tp (Zd (Zal rfl (WE.refl _)) (Zd ZjT (Zd ZjT (tc Zb)))))))) (Zf rfl (cc (cc (cc (cc Zh)))) (Zf rfl (cc (cc (cc (cc Zh)))) (Zf rfl (cc (cc (cc (cc Zh)))) Zc))))
    ·refine nw ?_
     refine AWP.seq ?_
     refine ns ?_
     obtain rfl := Zg hF
     refine ns ?_
     refine Exists.intro [] ?_
     refine st ?_
     exact wx (WS.mk (Zd (Zt (lc (lc (lc (lc Zo))))) Zb) Zc)
 ·intro lazycref04_subst_l1' lazycref04_subst_k2' Zek Zhy s ZiQ Zel Zc3 Zhk t ZeF ZdF r hF
  unfold ZbJ.M
  intro ZgD Znt Znn
  refine AWL.step ?_
  refine AWP.seq ?_
  refine AWP.seq ?_
  refine ns ?_
  intro hlen209
  (try rw [List.length_map] at hlen209)
  (try rw [List.length_map])
  refine st ?_
  refine nw ?_
  refine ZN Znt Znn (fun Zrr Zup ZAf Zz0 ZBW => ?_) (fun ZAf => ?_)
  ·subst ZAf
   refine nw ?_
   refine AWP.seq ?_
   refine AWP.block ?_
   refine AWP.seq ?_
   obtain ⟨ZpQ, ZFU, hF⟩ := bind_some hF
   refine nn ?_
   refine sr (Zab (f := c_S) rfl Zz0) ?_
   refine st ?_
   refine e3 ?_
   refine st ?_
   refine cm (Zj.weak (rn []) (Zg3 s Zrr _ ZFU) rfl (WS.mk (tc (tc Zb)) Zc)) ?_
   refine st ?_
   refine AWP.seq ?_
   refine AWP.cutN (fun T => ∃ r, WS r T ⟨[(0, .c none (.sl (s.map Ze.cells))), (3, .ptr 3 0), (4, .ptr 4 0), (7, .ptr 7 0), (8, .c (some (8, 9)) (.sl (ZiQ.map c_S))), (9, .c (some (9, 45)) (.sl (Zel.map Ze.cells))), (10, .c (some (10, 9)) (.sl (Zc3.map c_S))), (11, .c none (.v (.int .i64 ((Zhk : Nat) : Int)))), (12, .ptr 12 0), (77, .c none (.v (.bool (ZpQ.2 && (!(Zrr.toList == t.fName.toList))))))], [(3, [(none, .v (.int .i64 t.fOp)), (none, .v (.string t.fName)), (none, .sl (t.fBound.fArgs.map Zk.cells)), (none, .sl (t.fKids.map Za.cells))]), (4, [(none, .v (.int .i64 0)), (none, .v (.string (ByteArray.mk #[]))), (none, .nils), (none, .nils)]), (7, [(none, .v (.int .i64 ZeF.fOp)), (none, .v (.string ZeF.fName)), (none, .sl (ZeF.fBound.fArgs.map Zk.cells)), (none, .sl (ZeF.fKids.map Za.cells))]), (12, [(none, .v (.int .i64 ZpQ.1.fOp)), (none, .v (.string ZpQ.1.fName)), (none, .sl (ZpQ.1.fBound.fArgs.map Zk.cells)), (none, .sl (ZpQ.1.fKids.map Za.cells))])]⟩) ?_ (fun T hw => ?_)
   ·refine nn ?_
    refine Or.inl (Exists.intro 8 (Exists.intro [[], [], [], [], [], [], [], []] (Exists.intro [([68, 69, 70, 71, 72, 73, 74, 75], [], []), ([69, 70, 71, 72, 73, 74, 75], [], []), ([70, 71, 72, 73, 74, 75], [], []), ([70, 71, 72, 73, 74, 75], [], []), ([72, 73, 74, 75], [], []), ([73, 74, 75], [], []), ([70, 71, 72, 73, 74, 75], [], []), ([70, 71, 72, 73, 75], [], [])] (Exists.intro [68, 69, 70, 71, 72, 73, 74, 75] (And.intro (by decide +kernel) ?_)))))
    refine dp ?_
    refine dp ?_
    refine st ?_
    refine Zm true (fun ZzS => ?_) (fun ZzS => ?_)
    ·(conv => whnf)
     refine dp ?_
     refine dp ?_
     refine dr (Zab rfl Zz0) ?_
     refine dp ?_
     refine dp ?_
     refine dp ?_
     refine st ?_
     exact Exists.intro (rn [(8, 8), (9, 9), (10, 10)]) (WS.mk (tc (tp (tp (tp (Zd (Zal rfl (WE.refl _)) (Zd (Zal rfl (WE.refl _)) (Zd (Zal rfl (WE.refl _)) (tc (tp (Zd (Zr (web ZzS)) Zb)))))))))) (Zf rfl (cc (cc (cc (cc Zh)))) (Zf rfl (cc (cc (cc (cc Zh)))) (Zf rfl (cc (cc (cc (cc Zh)))) (Zf rfl (cc (cc (cc (cc Zh)))) Zc)))))
    ·(conv => whnf)
     refine st ?_
     exact Exists.intro (rn [(8, 8), (9, 9), (10, 10)]) (WS.mk (tc (tp (tp (tp (Zd (Zal rfl (WE.refl _)) (Zd (Zal rfl (WE.refl _)) (Zd (Zal rfl (WE.refl _)) (tc (tp (Zd (Zr (web ZzS)) Zb)))))))))) (Zf rfl (cc (cc (cc (cc Zh)))) (Zf rfl (cc (cc (cc (cc Zh)))) (Zf rfl (cc (cc (cc (cc Zh)))) (Zf rfl (cc (cc (cc (cc Zh)))) Zc)))))
   obtain ⟨r0, hw⟩ := hw
   (conv => whnf)
   refine AWP.weak r0 hw ?_
   refine nw ?_
   refine Zi hF (fun ZFh hF => ?_) (fun ZFh hF => ?_)
   ·refine AWP.seq ?_
    obtain ⟨ZE9, hF⟩ := Zy hF
    refine nn ?_
    refine Or.inl (Exists.intro 8 (Exists.intro [[], [], [], [], [], [], [], []] (Exists.intro [([78, 79, 80, 81, 82, 83, 84, 85], [], []), ([78, 79, 80, 81, 82, 83, 84, 85], [], []), ([78, 79, 80, 81, 82, 83, 84, 85], [], []), ([78, 81, 82, 83, 84, 85], [], []), ([78, 82, 83, 84, 85], [], []), ([78, 79, 80, 81, 82, 83, 84, 85], [], []), ([78, 84, 85], [], []), ([78, 85], [], [])] (Exists.intro [78, 79, 80, 81, 82, 83, 84, 85] (And.intro (by decide +kernel) ?_)))))
    refine dp ?_
    refine dp ?_
    refine dp ?_
    refine dr (Zab rfl Zz0) ?_
    refine dp ?_
    refine dp ?_
    refine dp ?_
    refine de (Zbs (f := Ze.cells) (ZdA (Ze.cells_eq (Ze.mk Zrr ZpQ.1)) (lc (lc (lc (lc (lc Zo)))))) (ZY (f := Ze.cells))) ?_
    refine sa (fun l => ZbO l (fun x => Ze.cells_len x)) ZE9 ?_
    refine Exists.intro _ (And.intro (WE.refl _) ?_)
    rw [← List.map_append]
    refine st ?_
    obtain ⟨ZC3, ZFj, hF⟩ := bind_some hF
    refine ns ?_
    refine e3 ?_
    refine st ?_
    refine cm (Zj.weak (rn [(10, 0)]) (ZfH Zc3 ([] : List ByteArray) ZpQ.1 _ ZFj) rfl (WS.mk (Zd (Zal rfl (WE.refl _)) (Zd (Zr WE.nil) (Zd (Zt (lc (lc (lc (lc Zo))))) Zb))) Zc)) ?_
    refine st ?_
    refine ns ?_
    refine AWL.weak (rn [(8, 8), (86, 9), (89, 10)]) ?_ (Zek s ZiQ (Zel ++ ([(Ze.mk Zrr ZpQ.1)])) ZC3 (Zhk + 1) t ZeF Zup _ hF (ZgD ++ [Zrr]) (by rw [Znt]; simp) (by rw [Znn]; simp))
    exact (WS.mk (tc (tp (tp (tp (Zd (Zal rfl (WE.refl _)) (Zd (Zal rfl (WE.refl _)) (Zd (Zal rfl (WE.refl _)) (Zd (Zr (Zdf (ZV hlen209 ZBW))) Zb)))))))) (Zf rfl (cc (cc (cc (cc Zh)))) (Zf rfl (cc (cc (cc (cc Zh)))) (Zf rfl (cc (cc (cc (cc Zh)))) Zc))))
   ·refine nw ?_
    refine ns ?_
    refine AWL.weak (rn [(8, 8), (9, 9), (10, 10)]) ?_ (Zek s ZiQ Zel Zc3 (Zhk + 1) t ZeF Zup _ hF (ZgD ++ [Zrr]) (by rw [Znt]; simp) (by rw [Znn]; simp))
    exact (WS.mk (tc (tp (tp (tp (Zd (Zal rfl (WE.refl _)) (Zd (Zal rfl (WE.refl _)) (Zd (Zal rfl (WE.refl _)) (Zd (Zr (Zdf (ZV hlen209 ZBW))) Zb)))))))) (Zf rfl (cc (cc (cc (cc Zh)))) (Zf rfl (cc (cc (cc (cc Zh)))) (Zf rfl (cc (cc (cc (cc Zh)))) Zc))))
  ·subst ZAf
   refine nw ?_
   refine AWP.seq ?_
   refine ns ?_
   refine AWP.seq ?_
   refine AWP.seq ?_
   obtain ⟨ZFf, ZEy, hF⟩ := bind_some hF
   refine ns ?_
   refine Exists.intro [10] (Exists.intro [] (Exists.intro [] ?_))
   refine st ?_
   refine cm (Zj.weak (rn []) (ZeV Zc3 t.fName _ ZEy) rfl (WS.mk (tc (tc Zb)) Zc)) ?_
   refine st ?_
   refine nw ?_
   refine Zi hF (fun ZE4 hF => ?_) (fun ZE4 hF => ?_)
   ·refine AWP.seq ?_
    refine ns ?_
    refine AWP.seq ?_
    obtain ⟨ZFs, hF⟩ := Zy hF
    refine nn ?_
    refine sa (fun l => ZbO l (fun x => ZfK x)) ZFs ?_
    refine Exists.intro _ (And.intro (WE.refl _) ?_)
    (try rw [List.nil_append])
    refine st ?_
    refine AWP.seq ?_
    obtain ⟨ZFC, hF⟩ := Zy hF
    refine nn ?_
    refine sa (fun l => ZbO l (fun x => ZfK x)) ZFC ?_
    refine Exists.intro _ (And.intro (WE.refl _) ?_)
    rw [← List.map_append]
    refine st ?_
    refine AWP.seq ?_
    obtain ⟨ZyN, ZEN, hF⟩ := bind_some hF
    refine ns ?_
    refine Exists.intro [100] (Exists.intro [] (Exists.intro [] ?_))
    refine st ?_
    refine cm (Zj.weak (rn []) (Zl7 t.fName (ZiQ ++ Zc3) _ ZEN) rfl (WS.mk (tc (tc Zb)) Zc)) ?_
    refine st ?_
    obtain ⟨Zzo, ZGj, hF⟩ := bind_some hF
    obtain ⟨ZFm, hF⟩ := Zy hF
    refine nn ?_
    refine Or.inl (Exists.intro 7 (Exists.intro [[], [], [], [], [], [], []] (Exists.intro [([105, 106, 107, 108, 109, 110, 111], [], []), ([105, 106, 107, 108, 109, 110, 111], [], []), ([105, 107, 108, 109, 110, 111], [], []), ([105, 106, 107, 108, 109, 110, 111], [], []), ([105, 106, 107, 109, 110, 111], [], []), ([105, 110, 111], [], []), ([105, 111], [], [])] (Exists.intro [105, 106, 107, 108, 109, 110, 111] (And.intro (by decide +kernel) ?_)))))
    refine dp ?_
    refine dp ?_
    refine dp ?_
    refine dp ?_
    (refine st ?_; apply Exists.intro; apply Exists.intro; apply And.intro; (focus ((conv => whnf); refine Exists.intro [] ?_; (conv => whnf); refine And.intro rfl ?_; (conv => whnf); refine Zj.mono (Zj.weak (rn []) (ZoP ZyN _ ZGj) rfl (WS.mk (tc Zb) Zc)) ?_; rintro d b ⟨rfl, rfl⟩; exact And.intro rfl (And.intro rfl rfl))); apply And.intro; (focus exact rfl); (conv => whnf))
    refine dp ?_
    refine de (Zbs (f := Ze.cells) (ZdA (Ze.cells_eq (Ze.mk t.fName Zzo)) (lc (lc (lc (lc (lc Zo)))))) (ZY (f := Ze.cells))) ?_
    refine sa (fun l => ZbO l (fun x => Ze.cells_len x)) ZFm ?_
    refine Exists.intro _ (And.intro (WE.refl _) ?_)
    rw [← List.map_append]
    refine st ?_
    refine AWP.weak (rn [(112, 9)]) ?_ (Zhy (Zel ++ ([(Ze.mk t.fName Zzo)])) ZyN t ZeF _ hF)
    exact (WS.mk (tp (tp (tp (Zd (Zal rfl (WE.refl _)) (tc Zb))))) (Zf rfl (cc (cc (cc (cc Zh)))) (Zf rfl (cc (cc (cc (cc Zh)))) (Zf rfl (cc (cc (cc (cc Zh)))) Zc))))
   ·refine nw ?_
    refine AWP.weak (rn [(9, 9)]) ?_ (Zhy Zel t.fName t ZeF _ hF)
    exact (WS.mk (tp (tp (tp (Zd (Zal rfl (WE.refl _)) (tc Zb))))) (Zf rfl (cc (cc (cc (cc Zh)))) (Zf rfl (cc (cc (cc (cc Zh)))) (Zf rfl (cc (cc (cc (cc Zh)))) Zc))))
 ·intro lazycref04_subst' Ze5 Zel Ziu t ZeF r hF
  unfold Zb3.M
  refine AWP.seq ?_
  obtain ⟨ZDT, ZFI, hF⟩ := bind_some hF
  refine nn ?_
  refine Or.inr (Exists.intro [0, 1, 2, 3] (Exists.intro [[113, 114, 115, 116], [113, 114, 115, 116], [113, 115, 116], [113, 114, 115, 116]] (Exists.intro [3] (Exists.intro [3, 9, 14, 113, 114, 115, 116] (Exists.intro [113, 114, 115, 116] (Exists.intro [4, 5, 6, 7, 8] (And.intro (by decide +kernel) ?_)))))))
  refine dp ?_
  refine dp ?_
  refine dp ?_
  refine dp ?_
  refine st ?_
  refine Exists.intro [9] (Exists.intro [] (Exists.intro [] ?_))
  refine st ?_
  refine cm (Zj.weak (rn []) (Ze5 Zel ZeF _ ZFI) rfl (WS.mk (tc (Zd (Zt (lc (lc (lc (lc Zo))))) Zb)) Zc)) ?_
  refine st ?_
  refine Exists.intro _ (And.intro (Zbs (f := Za.cells) (ZdA (Za.cells_eq ZDT) (lc (lc (lc (lc Zo))))) (ZY (f := Za.cells))) ?_)
  refine st ?_
  obtain rfl := Zg hF
  refine ns ?_
  refine Exists.intro [] ?_
  refine st ?_
  exact wx (WS.mk (Zd (Zt (lc (lc (lc (lc Zo))))) Zb) Zc)
theorem ZnM : ∀ (s : (List Ze)) (t : Za), ∀ r, Zao s t = some r → Zao.M s t r := Zf7.1
theorem lazycref04_subst_l1_ok : ∀ (s : (List Ze)) (ZiQ : ((List ByteArray))) (Zel : (List Ze)) (Zc3 : (List ByteArray)) (Zhk : Nat) (t : Za) (ZeF : Za) (ZdF : (List ByteArray)), ∀ r, ZbJ s ZiQ Zel Zc3 Zhk t ZeF ZdF = some r → ZbJ.M s ZiQ Zel Zc3 Zhk t ZeF ZdF r := Zf7.2.1
theorem lazycref04_subst_k2_ok : ∀ (Zel : (List Ze)) (Ziu : ByteArray) (t : Za) (ZeF : Za), ∀ r, Zb3 Zel Ziu t ZeF = some r → Zb3.M Zel Ziu t ZeF r := Zf7.2.2

def Zbc (s : (List Ze)) (i_5 : Nat) (t : Za) (Zaw : (List Ze)) : Option (Za) :=
 (match Zaw with
 | x58 :: ZDe =>
 ZbE x58.fName >>= fun r61 =>
 (if (!r61) = true then some true else ZaG x58.fType >>= fun r62 =>
 some (r62 != 0)) >>= fun c63 =>
 if c63 = true then
 some (Za.mk 0 (ByteArray.mk #[]) (Zk.mk ([] : List Zk)) ([] : List Za))
 else
 Zbc s (i_5 + 1) t ZDe
 | [] =>
 ZaB s ([] : List ByteArray) t >>= fun r66 =>
 if ((decide (r66.1 > 20000)) || (decide (r66.2 > 100))) = true then
 some (Za.mk 0 (ByteArray.mk #[]) (Zk.mk ([] : List Zk)) ([] : List Za))
 else
 Zao s t >>= fun r70 =>
 some r70)
 partial_fixpoint
def Zbc.M (s : (List Ze)) (i_5 : Nat) (t : Za) (Zaw : (List Ze)) (r : Za) : Prop :=
 ∀ Zdy : List Ze, s = Zdy ++ Zaw → i_5 = Zdy.length → AWL Tryz.prog 51 (Code.sub (Zq Tryz.f17) [1, 1, 0, 1, 0, 0]) (Code.cont Tryz.prog 51 (Zq Tryz.f17) [1, 1, 0, 1, 0] (ZbW tab Tryz.f17.results (ZbY (.agg [.v (.int .i64 r.fOp), .v (.string r.fName), .sl (r.fBound.fArgs.map Zk.cells), .sl (r.fKids.map Za.cells)]) []))) ⟨[(0, .c none (.sl (s.map Ze.cells))), (3, .ptr 3 0), (4, .ptr 4 0), (5, .c none (.v (.int .i64 ((i_5 : Nat) : Int))))], [(3, [(none, .v (.int .i64 t.fOp)), (none, .v (.string t.fName)), (none, .sl (t.fBound.fArgs.map Zk.cells)), (none, .sl (t.fKids.map Za.cells))]), (4, [(none, .v (.int .i64 0)), (none, .v (.string (ByteArray.mk #[]))), (none, .nils), (none, .nils)])]⟩
theorem ZlH (s : (List Ze)) (i_5 : Nat) (t : Za) (Zaw : (List Ze)) : ∀ r, Zbc s i_5 t Zaw = some r → Zbc.M s i_5 t Zaw r := by
 refine Zbc.partial_correctness s t (fun i_5 Zaw r => Zbc.M s i_5 t Zaw r) ?_ i_5 Zaw
 intro lazycref04_Subst_l1' Zg6 i_5 Zaw r hF
 have Zlv := fun (_s : (List Ze)) (i_5 : Nat) (_t : Za) (Zaw : (List Ze)) => Zg6 i_5 Zaw
 clear Zg6
 unfold Zbc.M
 intro Zdy ZhF Zhp
 refine AWL.step ?_
 refine AWP.seq ?_
 refine AWP.seq ?_
 refine ns ?_
 intro hlen57
 (try rw [List.length_map] at hlen57)
 (try rw [List.length_map])
 refine st ?_
 refine nw ?_
 refine ZN ZhF Zhp (fun x58 ZDe ZCK ZFE ZIQ => ?_) (fun ZCK => ?_)
 ·subst ZCK
  refine nw ?_
  refine AWP.seq ?_
  refine AWP.block ?_
  refine AWP.seq ?_
  obtain ⟨r61, ZAj, hF⟩ := bind_some hF
  obtain ⟨c63, Zqe, hF⟩ := bind_some hF
  refine AWP.cutN (fun T => ∃ r, WS r T ⟨[(0, .c none (.sl (s.map Ze.cells))), (3, .ptr 3 0), (4, .ptr 4 0), (5, .c none (.v (.int .i64 ((i_5 : Nat) : Int)))), (33, .c none (.v (.bool c63)))], [(3, [(none, .v (.int .i64 t.fOp)), (none, .v (.string t.fName)), (none, .sl (t.fBound.fArgs.map Zk.cells)), (none, .sl (t.fKids.map Za.cells))]), (4, [(none, .v (.int .i64 0)), (none, .v (.string (ByteArray.mk #[]))), (none, .nils), (none, .nils)])]⟩) ?_ (fun T hw => ?_)
  ·refine nn ?_
   refine sr (Zab (f := Ze.cells) (Ze.cells_eq x58) ZFE) ?_
   refine st ?_
   refine e3 ?_
   refine st ?_
   refine cm (Zj.weak (rn []) (ZfF x58.fName _ ZAj) rfl (WS.mk (tc Zb) Zc)) ?_
   refine st ?_
   refine Zm false (fun ZrI => ?_) (fun ZrI => ?_)
   ·have Zqe := ift ZrI Zqe
    (conv => whnf)
    obtain rfl := Zg Zqe
    refine st ?_
    exact wx (WS.mk (tc (tp (tp (tc (Zd (Zr (web ZrI)) Zb))))) (Zf rfl (cc (cc (cc (cc Zh)))) (Zf rfl (cc (cc (cc (cc Zh)))) Zc)))
   ·have Zqe := ife ZrI Zqe
    obtain ⟨r62, ZDw, Zqe⟩ := bind_some Zqe
    (conv => whnf)
    refine sr (Zab (f := Ze.cells) (Ze.cells_eq x58) ZFE) ?_
    refine st ?_
    refine e3 ?_
    refine st ?_
    refine cm (Zj.weak (rn []) (ZdI x58.fType _ ZDw) rfl (WS.mk (Zd (Zt (lc (lc (lc (lc Zo))))) Zb) Zc)) ?_
    refine st ?_
    obtain rfl := Zg Zqe
    refine st ?_
    exact wx (WS.mk (tc (tp (tp (tc (Zd (Zr (web ZrI)) Zb))))) (Zf rfl (cc (cc (cc (cc Zh)))) (Zf rfl (cc (cc (cc (cc Zh)))) Zc)))
  obtain ⟨r0, hw⟩ := hw
  (conv => whnf)
  refine AWP.weak r0 hw ?_
  refine nw ?_
  refine Zi hF (fun ZAr hF => ?_) (fun ZAr hF => ?_)
  ·refine AWP.seq ?_
   refine ns ?_
   obtain rfl := Zg hF
   refine ns ?_
   refine Exists.intro [] ?_
   refine st ?_
   exact wx (WS.mk (Zd (Zt (lc (lc (ZaR WE.nil (ZaR WE.nil Zo))))) Zb) Zc)
  ·refine nw ?_
   refine ns ?_
   refine AWL.weak (rn []) ?_ (Zlv s (i_5 + 1) t ZDe _ hF (Zdy ++ [x58]) (by rw [ZhF]; simp) (by rw [Zhp]; simp))
   exact (WS.mk (tc (tp (tp (Zd (Zr (Zdf (ZV hlen57 ZIQ))) Zb)))) (Zf rfl (cc (cc (cc (cc Zh)))) (Zf rfl (cc (cc (cc (cc Zh)))) Zc)))
 ·subst ZCK
  refine nw ?_
  refine AWP.seq ?_
  obtain ⟨r66, ZGS, hF⟩ := bind_some hF
  refine ns ?_
  refine e3 ?_
  refine st ?_
  refine cm (Zj.weak (rn []) (Zl4 s ([] : List ByteArray) t _ ZGS) rfl (WS.mk (tc (Zd (Zr WE.nil) (Zd (Zt (lc (lc (lc (lc Zo))))) Zb))) Zc)) ?_
  refine st ?_
  refine AWP.seq ?_
  refine AWP.seq ?_
  refine AWP.cutN (fun T => ∃ r, WS r T ⟨[(0, .c none (.sl (s.map Ze.cells))), (3, .ptr 3 0), (4, .ptr 4 0), (46, .c none (.v (.bool ((decide (r66.1 > 20000)) || (decide (r66.2 > 100))))))], [(3, [(none, .v (.int .i64 t.fOp)), (none, .v (.string t.fName)), (none, .sl (t.fBound.fArgs.map Zk.cells)), (none, .sl (t.fKids.map Za.cells))]), (4, [(none, .v (.int .i64 0)), (none, .v (.string (ByteArray.mk #[]))), (none, .nils), (none, .nils)])]⟩) ?_ (fun T hw => ?_)
  ·refine ns ?_
   refine Zm false (fun ZCf => ?_) (fun ZCf => ?_)
   ·(conv => whnf)
    refine st ?_
    exact wx (WS.mk (tc (tp (tp (Zd (Zr (web ZCf)) Zb)))) (Zf rfl (cc (cc (cc (cc Zh)))) (Zf rfl (cc (cc (cc (cc Zh)))) Zc)))
   ·(conv => whnf)
    refine st ?_
    exact wx (WS.mk (tc (tp (tp (Zd (Zr (web ZCf)) Zb)))) (Zf rfl (cc (cc (cc (cc Zh)))) (Zf rfl (cc (cc (cc (cc Zh)))) Zc)))
  obtain ⟨r0, hw⟩ := hw
  (conv => whnf)
  refine AWP.weak r0 hw ?_
  refine nw ?_
  refine Zi hF (fun ZDD hF => ?_) (fun ZDD hF => ?_)
  ·refine AWP.seq ?_
   refine ns ?_
   obtain rfl := Zg hF
   refine ns ?_
   refine Exists.intro [] ?_
   refine st ?_
   exact wx (WS.mk (Zd (Zt (lc (lc (ZaR WE.nil (ZaR WE.nil Zo))))) Zb) Zc)
  ·refine nw ?_
   refine AWP.seq ?_
   obtain ⟨r70, ZCL, hF⟩ := bind_some hF
   refine ns ?_
   refine e3 ?_
   refine st ?_
   refine cm (Zj.weak (rn []) (ZnM s t _ ZCL) rfl (WS.mk (tc (Zd (Zt (lc (lc (lc (lc Zo))))) Zb)) Zc)) ?_
   refine st ?_
   obtain rfl := Zg hF
   refine ns ?_
   refine Exists.intro [] ?_
   refine st ?_
   exact wx (WS.mk (Zd (Zt (lc (lc (lc (lc Zo))))) Zb) Zc)

def Za3 (s : (List Ze)) (t : Za) : Option (Za) :=
 ZaG t >>= fun r3 =>
 if (r3 != 0) = true then
 some (Za.mk 0 (ByteArray.mk #[]) (Zk.mk ([] : List Zk)) ([] : List Za))
 else
 Zbc s 0 t s
def Za3.M (s : (List Ze)) (t : Za) (r : Za) : Prop :=
 Zj Tryz.prog 17 [.c none (.sl (s.map Ze.cells)), .agg [.v (.int .i64 t.fOp), .v (.string t.fName), .sl (t.fBound.fArgs.map Zk.cells), .sl (t.fKids.map Za.cells)]] [] (fun d b => d = .agg [.v (.int .i64 r.fOp), .v (.string r.fName), .sl (r.fBound.fArgs.map Zk.cells), .sl (r.fKids.map Za.cells)] ∧ b = [])
theorem Ze4 (s : (List Ze)) (t : Za) (r : Za) (hF : Za3 s t = some r) : Za3.M s t r := by
 unfold Za3 at hF
 unfold Za3.M
 refine en Tryz.func17 ?_
 refine AWP.seq ?_
 refine ns ?_
 refine AWP.seq ?_
 refine AWP.seq ?_
 obtain ⟨r3, hr3, hF⟩ := bind_some hF
 refine ns ?_
 refine e3 ?_
 refine st ?_
 refine cm (Zj.weak (rn []) (ZdI t _ hr3) rfl (WS.mk (Zd (Zt (lc (lc (lc (lc Zo))))) Zb) Zc)) ?_
 refine st ?_
 refine nw ?_
 refine Zi hF (fun hc4 hF => ?_) (fun hc4 hF => ?_)
 ·refine AWP.seq ?_
  refine ns ?_
  obtain rfl := Zg hF
  refine ns ?_
  refine Exists.intro [] ?_
  refine st ?_
  exact wx (WS.mk (Zd (Zt (lc (lc (ZaR WE.nil (ZaR WE.nil Zo))))) Zb) Zc)
 ·refine nw ?_
  refine AWP.seq ?_
  refine AWP.seq ?_
  refine ns ?_
  refine AWP.block ?_
  refine AWP.loop ?_
  refine AWL.weak (rn []) ?_ (ZlH s 0 t s _ hF ([]) rfl rfl)
  exact (WS.mk (tc (tp (tp (tc Zb)))) (Zf rfl (cc (cc (cc (cc Zh)))) (Zf rfl (cc (cc (cc (cc Zh)))) Zc)))

def Zac (v : ByteArray) (r5 : (Za)) (s : Zu) (Zlk : Nat) (ZD : (List Ze)) : Option (Int × Zu) :=
 if (decide (((Zlk : Nat) : Int) < ((s.flist.length : Nat) : Int))) = true then
 (ZD[Zlk]?) >>= fun x52 =>
 Zeh ([(Ze.mk v r5)]) x52.fType >>= fun r53 =>
 if (r53.fOp == 0) = true then
 some (3, Zu.mk ZD s.fat)
 else
 (ZD[Zlk]?) >>= fun x57 =>
 Zac v r5 s (Zlk + 1) (ZD.set Zlk (Ze.mk x57.fName r53))
 else
 Z4 ((ZD.length + ([(Ze.mk v r5)]).length) * 88 ≤ 140737488355328) >>= fun _ =>
 some (0, Zu.mk (ZD ++ ([(Ze.mk v r5)])) (ZhW s.fat v ((ZD.length : Nat) : Int)))
 partial_fixpoint
def Zac.M (v : ByteArray) (r5 : (Za)) (s : Zu) (Zlk : Nat) (ZD : (List Ze)) (r : Int × Zu) : Prop :=
 s.flist.length ≤ maxLen → AWL Tryz.prog 77 (Code.sub (Zq Tryz.f53) [1, 1, 1, 1, 1, 0, 1, 0, 0]) (Code.cont Tryz.prog 77 (Zq Tryz.f53) [1, 1, 1, 1, 1, 0, 1, 0] (ZbW tab Tryz.f53.results (ZbY (.c none (.v (.int .i64 r.1))) [(1000, [(none, .rs 7001 r.2.flist.length), (none, .rf 1002)]), (1002, [(none, .ob 109 (r.2.fat.map (Zeb c_S Zcv)))]), (7001, [(none, .ob 90 (r.2.flist.map Ze.cells))])]))) ⟨[(0, .ptr 1000 0), (1, .c none (.v (.string v))), (8, .c (some (8, 45)) (.sl (([(Ze.mk v r5)]).map Ze.cells))), (32, .c none (.rs 7001 ZD.length)), (33, .c none (.v (.int .i64 ((s.flist.length : Nat) : Int)))), (34, .c none (.v (.int .i64 ((Zlk : Nat) : Int))))], [(1000, [(none, .rs 7001 ZD.length), (none, .rf 1002)]), (1002, [(none, .ob 109 (s.fat.map (Zeb c_S Zcv)))]), (7001, [(none, .ob 90 (ZD.map Ze.cells))])]⟩
theorem ZkY (v : ByteArray) (r5 : (Za)) (s : Zu) (Zlk : Nat) (ZD : (List Ze)) : ∀ r, Zac v r5 s Zlk ZD = some r → Zac.M v r5 s Zlk ZD r := by
 refine Zac.partial_correctness v r5 s (fun Zlk ZD r => Zac.M v r5 s Zlk ZD r) ?_ Zlk ZD
 intro unify_solver_bind_l1' ZgF Zlk ZD r hF
 have ZkL := fun (_v : ByteArray) (_r5 : (Za)) (_s : Zu) (Zlk : Nat) (ZD : (List Ze)) => ZgF Zlk ZD
 clear ZgF
 unfold Zac.M
 intro hlen33
 refine AWL.step ?_
 refine AWP.seq ?_
 refine ns ?_
 refine AWP.seq ?_
 refine nw ?_
 refine Zi hF (fun Zpr hF => ?_) (fun Zpr hF => ?_)
 ·have ZDP := ZpH Zpr
  refine nw ?_
  refine AWP.seq ?_
  refine AWP.block ?_
  refine AWP.seq ?_
  obtain ⟨x52, ZGa, hF⟩ := bind_some hF
  refine ns ?_
  refine And.intro (ZtU ZGa) ?_
  refine st ?_
  refine sr (Zab (f := Ze.cells) (Ze.cells_eq x52) ZGa) ?_
  refine st ?_
  refine AWP.seq ?_
  obtain ⟨r53, Zzu, hF⟩ := bind_some hF
  refine ns ?_
  refine Exists.intro [8] (Exists.intro [] (Exists.intro [] ?_))
  refine st ?_
  refine cm (Zj.weak (rn []) (Zqa ([(Ze.mk v r5)]) x52.fType _ Zzu) rfl (WS.mk (tc (Zd (Zt (lc (lc (lc (lc Zo))))) Zb)) Zc)) ?_
  refine st ?_
  refine AWP.seq ?_
  refine AWP.seq ?_
  refine ns ?_
  refine nw ?_
  refine Zi hF (fun Ztb hF => ?_) (fun Ztb hF => ?_)
  ·refine AWP.seq ?_
   refine ns ?_
   obtain rfl := Zg hF
   refine ns ?_
   refine Exists.intro [(1000, 1000), (7001, 7001), (1002, 1002)] ?_
   refine st ?_
   exact wx (WS.mk (tc Zb) (Zf rfl (Ze3 (Zaf (by first | exact rfl | simp only [List.length_set])) (cc Zh)) (Zf rfl (cc Zh) (Zf rfl (cc Zh) Zc))))
  ·refine nw ?_
   obtain ⟨x57, ZE5, hF⟩ := bind_some hF
   refine nn ?_
   refine Or.inl (Exists.intro 6 (Exists.intro [[], [], [], [], [], []] (Exists.intro [([46, 47, 48, 49, 50, 51], [], []), ([47, 48, 49, 50, 51], [], []), ([48, 49, 50, 51], [], []), ([49, 50, 51], [], []), ([46, 47, 48, 49, 50, 51], [], []), ([46, 47, 48, 49, 50, 51], [], [])] (Exists.intro [46, 47, 48, 49, 50, 51] (And.intro (by decide +kernel) ?_)))))
   refine dp ?_
   refine dp ?_
   refine dp ?_
   refine dp ?_
   refine dp ?_
   refine dp ?_
   refine st ?_
   refine And.intro (ZtU ZE5) ?_
   refine st ?_
   refine sr (Zab (f := Ze.cells) (Ze.cells_eq x57) ZE5) ?_
   refine Exists.intro ((ZD.set Zlk (Ze.mk x57.fName r53)).map Ze.cells) (And.intro (ZDM (ZdA (Ze.cells_eq (Ze.mk x57.fName r53)) (lc (lc (lc (lc (lc Zo))))))) ?_)
   refine st ?_
   refine ns ?_
   refine AWL.weak (rn [(8, 8)]) ?_ (ZkL v r5 s (Zlk + 1) (ZD.set Zlk (Ze.mk x57.fName r53)) _ hF hlen33)
   exact (WS.mk (tp (tc (Zd (Zal rfl (WE.refl _)) (Zd (Zr (Zaf (by first | exact rfl | simp only [List.length_set]))) (tc (Zd (Zr (Zdf (ZV hlen33 ZDP))) Zb)))))) (Zf rfl (Ze3 (Zaf (by first | exact rfl | simp only [List.length_set])) (cc Zh)) (Zf rfl (cc Zh) (Zf rfl (cc Zh) Zc))))
 ·refine nw ?_
  refine AWP.seq ?_
  refine nn ?_
  refine Or.inl (Exists.intro 10 (Exists.intro [[], [], [], [], [], [], [], [], [], []] (Exists.intro [([55, 56, 57, 58, 59, 60, 61, 62, 63, 64], [], []), ([56, 57, 58, 59, 60, 61, 62, 63, 64], [], []), ([57, 58, 59, 60, 61, 62, 63, 64], [], []), ([58, 59, 60, 61, 62, 63, 64], [], []), ([55, 56, 57, 58, 59, 60, 61, 62, 63, 64], [], []), ([55, 56, 57, 58, 59, 60, 61, 62, 63, 64], [], []), ([55, 56, 57, 58, 59, 61, 62, 63, 64], [], []), ([55, 56, 57, 58, 59, 62, 63, 64], [], []), ([55, 56, 57, 58, 59, 63, 64], [], []), ([55, 56, 57, 58, 59, 64], [], [])] (Exists.intro [55, 56, 57, 58, 59, 60, 61, 62, 63, 64] (And.intro (by decide +kernel) ?_)))))
  refine dp ?_
  refine dp ?_
  refine dp ?_
  refine dp ?_
  refine dp ?_
  refine dp ?_
  refine dp ?_
  refine dp ?_
  refine dp ?_
  refine dl ?_
  refine st ?_
  refine ZoK (m := s.fat) (k := v) (v := ((ZD.length : Nat) : Int)) ZhN (ev := Zcv) (lc Zo) ?_
  refine st ?_
  refine AWP.seq ?_
  obtain ⟨ZHg, hF⟩ := Zy hF
  refine nn ?_
  refine Or.inr (Exists.intro [0, 5, 6, 7, 8] (Exists.intro [[65, 70, 71, 72, 73], [65, 70, 71, 72, 73], [65, 71, 72, 73], [65, 72, 73], [65, 73]] (Exists.intro [] (Exists.intro [0, 8, 65, 70, 71, 72, 73] (Exists.intro [65, 70, 71, 72, 73] (Exists.intro [1, 2, 3, 4, 9, 10, 11, 12] (And.intro (by decide +kernel) ?_)))))))
  refine dp ?_
  refine dp ?_
  refine dp ?_
  refine dp ?_
  refine de (Zbs (f := Ze.cells) (ZdA (Ze.cells_eq (Ze.mk v r5)) (lc (lc (lc (lc (lc Zo)))))) (ZY (f := Ze.cells))) ?_
  refine sa (fun l => ZbO l (fun x => Ze.cells_len x)) ZHg ?_
  refine Exists.intro (([(Ze.mk v r5)]).map Ze.cells) (Exists.intro ((ZD ++ ([(Ze.mk v r5)])).map Ze.cells) (Exists.intro (ZD ++ ([(Ze.mk v r5)])).length (And.intro (WE.refl _) (And.intro (ZrD (by first | exact rfl | simp only [List.length_set])) (And.intro (Zq6 (by first | exact rfl | simp only [List.length_set]) (by first | exact List.length_map _ | exact rfl)) ?_)))))
  refine st ?_
  refine AWP.seq ?_
  refine ns ?_
  obtain rfl := Zg hF
  refine ns ?_
  refine Exists.intro [(1000, 1000), (7001, 7001), (1002, 1002)] ?_
  refine st ?_
  exact wx (WS.mk (tc Zb) (Zf rfl (Ze3 (Zaf (by first | exact rfl | simp only [List.length_set])) (cc Zh)) (Zf rfl (cc Zh) (Zf rfl (cc Zh) Zc))))

def ZaE (s : Zu) (v : ByteArray) (t : Za) : Option (Int × Zu) :=
 ZcD s v t >>= fun r3 =>
 if r3 = true then
 some (23, s)
 else
 ZeO s.flist t >>= fun r5 =>
 if (r5.fOp == 0) = true then
 some (3, s)
 else
 Zac v r5 s 0 s.flist
def ZaE.M (s : Zu) (v : ByteArray) (t : Za) (r : Int × Zu) : Prop :=
 Zj Tryz.prog 53 [.ptr 1000 0, .c none (.v (.string v)), .agg [.v (.int .i64 t.fOp), .v (.string t.fName), .sl (t.fBound.fArgs.map Zk.cells), .sl (t.fKids.map Za.cells)]] [(1000, [(none, .rs 7001 s.flist.length), (none, .rf 1002)]), (1002, [(none, .ob 109 (s.fat.map (Zeb c_S Zcv)))]), (7001, [(none, .ob 90 (s.flist.map Ze.cells))])] (fun d b => d = .c none (.v (.int .i64 r.1)) ∧ b = [(1000, [(none, .rs 7001 r.2.flist.length), (none, .rf 1002)]), (1002, [(none, .ob 109 (r.2.fat.map (Zeb c_S Zcv)))]), (7001, [(none, .ob 90 (r.2.flist.map Ze.cells))])])
theorem Ziy (s : Zu) (v : ByteArray) (t : Za) (r : Int × Zu) (hF : ZaE s v t = some r) : ZaE.M s v t r := by
 unfold ZaE at hF
 unfold ZaE.M
 refine en Tryz.func53 ?_
 refine AWP.seq ?_
 refine ns ?_
 refine AWP.seq ?_
 refine AWP.seq ?_
 obtain ⟨r3, hr3, hF⟩ := bind_some hF
 refine ns ?_
 refine Exists.intro [] (Exists.intro [(1000, 1000), (7001, 1001), (1002, 1002)] (Exists.intro [] ?_))
 refine st ?_
 refine cm (Zj.weak (rn []) (Zlj s v t _ hr3) rfl (WS.mk (tp (tc (Zd (Zt (lc (lc (lc (lc Zo))))) Zb))) (Zf rfl (Ze3 (Zaf (by first | exact rfl | simp only [List.length_set])) (cc Zh)) (Zf rfl (cc Zh) (Zf rfl (cc Zh) Zc))))) ?_
 refine st ?_
 refine nw ?_
 refine Zi hF (fun hc4 hF => ?_) (fun hc4 hF => ?_)
 ·refine AWP.seq ?_
  refine ns ?_
  obtain rfl := Zg hF
  refine ns ?_
  refine Exists.intro [(1000, 1000), (7001, 7001), (1002, 1002)] ?_
  refine st ?_
  exact wx (WS.mk (tc Zb) (Zf rfl (Ze3 (Zaf (by first | exact rfl | simp only [List.length_set])) (cc Zh)) (Zf rfl (cc Zh) (Zf rfl (cc Zh) Zc))))
 ·refine nw ?_
  refine AWP.seq ?_
  obtain ⟨r5, hr5, hF⟩ := bind_some hF
  refine nn ?_
  refine Or.inl (Exists.intro 7 (Exists.intro [[], [], [], [], [], [7001], [7]] (Exists.intro [([16, 17, 18, 19, 20, 21, 7], [7], []), ([17, 18, 19, 20, 21, 7], [7], []), ([18, 19, 20, 21, 7], [7], []), ([19, 20, 21, 7], [7], []), ([16, 17, 18, 19, 20, 21, 7], [7], []), ([21, 7], [7], [7001]), ([16, 17, 18, 19, 20, 21, 7], [7001], [7])] (Exists.intro [16, 17, 18, 19, 20, 21, 7] (And.intro (by decide +kernel) ?_)))))
  refine dp ?_
  refine dp ?_
  refine dp ?_
  refine dp ?_
  refine dp ?_
  (refine st ?_; apply Exists.intro; apply Exists.intro; apply And.intro; (focus ((conv => whnf); refine Exists.intro [(7001, 1000)] ?_; (conv => whnf); refine And.intro rfl ?_; (conv => whnf); refine Zj.mono (Zj.weak (rn []) (ZqJ s.flist t _ hr5) rfl (WS.mk (Zd (Zr (Zaf (by first | exact rfl | simp only [List.length_set]))) (Zd (Zt (lc (lc (lc (lc Zo))))) Zb)) (Zf rfl (cc Zh) Zc))) ?_; rintro d b ⟨rfl, rfl⟩; exact And.intro rfl (And.intro rfl rfl))); apply And.intro; (focus exact rfl); (conv => whnf))
  refine dp ?_
  refine st ?_
  refine AWP.seq ?_
  refine AWP.seq ?_
  refine ns ?_
  refine nw ?_
  refine Zi hF (fun hc7 hF => ?_) (fun hc7 hF => ?_)
  ·refine AWP.seq ?_
   refine ns ?_
   obtain rfl := Zg hF
   refine ns ?_
   refine Exists.intro [(1000, 1000), (7001, 7001), (1002, 1002)] ?_
   refine st ?_
   exact wx (WS.mk (tc Zb) (Zf rfl (Ze3 (Zaf (by first | exact rfl | simp only [List.length_set])) (cc Zh)) (Zf rfl (cc Zh) (Zf rfl (cc Zh) Zc))))
  ·refine nw ?_
   refine AWP.seq ?_
   refine ns ?_
   refine Exists.intro _ (And.intro (Zbs (f := Ze.cells) (ZdA (Ze.cells_eq (Ze.mk v r5)) (lc (lc (lc (lc (lc Zo)))))) (ZY (f := Ze.cells))) ?_)
   refine st ?_
   refine AWP.seq ?_
   refine AWP.seq ?_
   refine ns ?_
   intro hlen33
   (try rw [List.length_map] at hlen33)
   (try rw [List.length_map])
   refine st ?_
   refine AWP.block ?_
   refine AWP.loop ?_
   refine AWL.weak (rn [(28, 8)]) ?_ (ZkY v r5 s 0 s.flist _ hF hlen33)
   exact (WS.mk (tp (tc (Zd (Zal rfl (WE.refl _)) (Zd (Zr (Zaf (by first | exact rfl | simp only [List.length_set]))) (tc (tc Zb)))))) (Zf rfl (Ze3 (Zaf (by first | exact rfl | simp only [List.length_set])) (cc Zh)) (Zf rfl (cc Zh) (Zf rfl (cc Zh) Zc))))

def ZbD (s : (List Ze)) (name_ : ByteArray) (r5 : (Za)) (Zgy : (List Ze)) (Zhk : Nat) (ZdF : (List Ze)) : Option ((List Ze) × Int) :=
 (match ZdF with
 | x71 :: ZDn =>
 Za3 ([(Ze.mk name_ r5)]) x71.fType >>= fun r74 =>
 if (r74.fOp == 0) = true then
 some (([] : List Ze), 3)
 else
 Z4 ((Zgy.length + ([(Ze.mk x71.fName r74)]).length) * 88 ≤ 140737488355328) >>= fun _ =>
 ZbD s name_ r5 (Zgy ++ ([(Ze.mk x71.fName r74)])) (Zhk + 1) ZDn
 | [] =>
 Z4 ((Zgy.length + ([(Ze.mk name_ r5)]).length) * 88 ≤ 140737488355328) >>= fun _ =>
 some (Zgy ++ ([(Ze.mk name_ r5)]), 0))
 partial_fixpoint
def ZbD.M (s : (List Ze)) (name_ : ByteArray) (r5 : (Za)) (Zgy : (List Ze)) (Zhk : Nat) (ZdF : (List Ze)) (r : (List Ze) × Int) : Prop :=
 ∀ ZgD : List Ze, s = ZgD ++ ZdF → Zhk = ZgD.length → AWL Tryz.prog 60 (Code.sub (Zq Tryz.f35) [1, 1, 1, 1, 1, 1, 0, 1, 0, 0]) (Code.cont Tryz.prog 60 (Zq Tryz.f35) [1, 1, 1, 1, 1, 1, 0, 1, 0] (ZbW tab Tryz.f35.results (ZbY (.tup [.c (.sl (r.1.map Ze.cells)), .c (.v (.int .i64 r.2))]) []))) ⟨[(0, .c none (.sl (s.map Ze.cells))), (9, .c (some (9, 45)) (.sl (([(Ze.mk name_ r5)]).map Ze.cells))), (10, .c (some (10, 45)) (.sl (Zgy.map Ze.cells))), (11, .c none (.v (.int .i64 ((Zhk : Nat) : Int))))], []⟩
theorem Zmd (s : (List Ze)) (name_ : ByteArray) (r5 : (Za)) (Zgy : (List Ze)) (Zhk : Nat) (ZdF : (List Ze)) : ∀ r, ZbD s name_ r5 Zgy Zhk ZdF = some r → ZbD.M s name_ r5 Zgy Zhk ZdF r := by
 refine ZbD.partial_correctness s name_ r5 (fun Zgy Zhk ZdF r => ZbD.M s name_ r5 Zgy Zhk ZdF r) ?_ Zgy Zhk ZdF
 intro lazycref18_bind_l1' ZhR Zgy Zhk ZdF r hF
 have Zme := fun (_s : (List Ze)) (_name_ : ByteArray) (_r5 : (Za)) (Zgy : (List Ze)) (Zhk : Nat) (ZdF : (List Ze)) => ZhR Zgy Zhk ZdF
 clear ZhR
 unfold ZbD.M
 intro ZgD Znt Znn
 refine AWL.step ?_
 refine AWP.seq ?_
 refine AWP.seq ?_
 refine ns ?_
 intro hlen70
 (try rw [List.length_map] at hlen70)
 (try rw [List.length_map])
 refine st ?_
 refine nw ?_
 refine ZN Znt Znn (fun x71 ZDn ZDo ZEY ZHw => ?_) (fun ZDo => ?_)
 ·subst ZDo
  refine nw ?_
  refine AWP.seq ?_
  refine AWP.block ?_
  refine AWP.seq ?_
  obtain ⟨r74, ZIr, hF⟩ := bind_some hF
  refine nn ?_
  refine sr (Zab (f := Ze.cells) (Ze.cells_eq x71) ZEY) ?_
  refine st ?_
  refine Exists.intro [9] (Exists.intro [] (Exists.intro [] ?_))
  refine st ?_
  refine cm (Zj.weak (rn []) (Ze4 ([(Ze.mk name_ r5)]) x71.fType _ ZIr) rfl (WS.mk (tc (Zd (Zt (lc (lc (lc (lc Zo))))) Zb)) Zc)) ?_
  refine st ?_
  refine AWP.seq ?_
  refine AWP.seq ?_
  refine ns ?_
  refine nw ?_
  refine Zi hF (fun ZyU hF => ?_) (fun ZyU hF => ?_)
  ·refine AWP.seq ?_
   refine ns ?_
   obtain rfl := Zg hF
   refine ns ?_
   refine Exists.intro [] ?_
   refine st ?_
   exact wx (WS.mk (Zd (Zc9 (ZcG WE.nil (ZcG (WE.refl _) Zda))) Zb) Zc)
  ·refine nw ?_
   obtain ⟨ZHT, hF⟩ := Zy hF
   refine nn ?_
   refine Or.inl (Exists.intro 9 (Exists.intro [[], [], [], [], [], [], [], [], []] (Exists.intro [([44, 45, 46, 47, 48, 49, 50, 51, 52], [], []), ([44, 45, 46, 47, 48, 49, 50, 51, 52], [], []), ([44, 45, 46, 47, 48, 49, 50, 51, 52], [], []), ([44, 47, 48, 49, 50, 51, 52], [], []), ([44, 48, 49, 50, 51, 52], [], []), ([44, 49, 50, 51, 52], [], []), ([44, 45, 46, 47, 48, 49, 50, 51, 52], [], []), ([44, 51, 52], [], []), ([44, 52], [], [])] (Exists.intro [44, 45, 46, 47, 48, 49, 50, 51, 52] (And.intro (by decide +kernel) ?_)))))
   refine dp ?_
   refine dp ?_
   refine dp ?_
   refine dr (Zab (Ze.cells_eq x71) ZEY) ?_
   refine dp ?_
   refine dp ?_
   refine dp ?_
   refine dp ?_
   refine de (Zbs (f := Ze.cells) (ZdA (Ze.cells_eq (Ze.mk x71.fName r74)) (lc (lc (lc (lc (lc Zo)))))) (ZY (f := Ze.cells))) ?_
   refine sa (fun l => ZbO l (fun x => Ze.cells_len x)) ZHT ?_
   refine Exists.intro _ (And.intro (WE.refl _) ?_)
   rw [← List.map_append]
   refine st ?_
   refine ns ?_
   refine AWL.weak (rn [(9, 9), (53, 10)]) ?_ (Zme s name_ r5 (Zgy ++ ([(Ze.mk x71.fName r74)])) (Zhk + 1) ZDn _ hF (ZgD ++ [x71]) (by rw [Znt]; simp) (by rw [Znn]; simp))
   exact (WS.mk (tc (Zd (Zal rfl (WE.refl _)) (Zd (Zal rfl (WE.refl _)) (Zd (Zr (Zdf (ZV hlen70 ZHw))) Zb)))) Zc)
 ·subst ZDo
  refine nw ?_
  refine AWP.seq ?_
  obtain ⟨ZHt, hF⟩ := Zy hF
  refine ns ?_
  refine Exists.intro _ (And.intro (Zbs (f := Ze.cells) (ZdA (Ze.cells_eq (Ze.mk name_ r5)) (lc (lc (lc (lc (lc Zo)))))) (ZY (f := Ze.cells))) ?_)
  refine sa (fun l => ZbO l (fun x => Ze.cells_len x)) ZHt ?_
  refine Exists.intro _ (And.intro (WE.refl _) ?_)
  rw [← List.map_append]
  refine st ?_
  obtain rfl := Zg hF
  refine ns ?_
  refine Exists.intro [] ?_
  refine st ?_
  exact wx (WS.mk (Zd (Zc9 (ZcG (WE.refl _) (ZcG (WE.refl _) Zda))) Zb) Zc)

def Za8 (s : (List Ze)) (name_ : ByteArray) (t : Za) : Option ((List Ze) × Int) :=
 Z2 s name_ t >>= fun r3 =>
 if r3 = true then
 some (([] : List Ze), 23)
 else
 Za3 s t >>= fun r5 =>
 if (r5.fOp == 0) = true then
 some (([] : List Ze), 3)
 else
 ZbD s name_ r5 ([] : List Ze) 0 s
def Za8.M (s : (List Ze)) (name_ : ByteArray) (t : Za) (r : (List Ze) × Int) : Prop :=
 Zj Tryz.prog 35 [.c none (.sl (s.map Ze.cells)), .c none (.v (.string name_)), .agg [.v (.int .i64 t.fOp), .v (.string t.fName), .sl (t.fBound.fArgs.map Zk.cells), .sl (t.fKids.map Za.cells)]] [] (fun d b => d = .tup [.c (.sl (r.1.map Ze.cells)), .c (.v (.int .i64 r.2))] ∧ b = [])
theorem ZjO (s : (List Ze)) (name_ : ByteArray) (t : Za) (r : (List Ze) × Int) (hF : Za8 s name_ t = some r) : Za8.M s name_ t r := by
 unfold Za8 at hF
 unfold Za8.M
 refine en Tryz.func35 ?_
 refine AWP.seq ?_
 refine ns ?_
 refine AWP.seq ?_
 refine AWP.seq ?_
 obtain ⟨r3, hr3, hF⟩ := bind_some hF
 refine ns ?_
 refine e3 ?_
 refine st ?_
 refine cm (Zj.weak (rn []) (ZmH s name_ t _ hr3) rfl (WS.mk (tc (tc (Zd (Zt (lc (lc (lc (lc Zo))))) Zb))) Zc)) ?_
 refine st ?_
 refine nw ?_
 refine Zi hF (fun hc4 hF => ?_) (fun hc4 hF => ?_)
 ·refine AWP.seq ?_
  refine ns ?_
  obtain rfl := Zg hF
  refine ns ?_
  refine Exists.intro [] ?_
  refine st ?_
  exact wx (WS.mk (Zd (Zc9 (ZcG WE.nil (ZcG (WE.refl _) Zda))) Zb) Zc)
 ·refine nw ?_
  refine AWP.seq ?_
  obtain ⟨r5, hr5, hF⟩ := bind_some hF
  refine ns ?_
  refine e3 ?_
  refine st ?_
  refine cm (Zj.weak (rn []) (Ze4 s t _ hr5) rfl (WS.mk (tc (Zd (Zt (lc (lc (lc (lc Zo))))) Zb)) Zc)) ?_
  refine st ?_
  refine AWP.seq ?_
  refine AWP.seq ?_
  refine ns ?_
  refine nw ?_
  refine Zi hF (fun hc7 hF => ?_) (fun hc7 hF => ?_)
  ·refine AWP.seq ?_
   refine ns ?_
   obtain rfl := Zg hF
   refine ns ?_
   refine Exists.intro [] ?_
   refine st ?_
   exact wx (WS.mk (Zd (Zc9 (ZcG WE.nil (ZcG (WE.refl _) Zda))) Zb) Zc)
  ·refine nw ?_
   refine AWP.seq ?_
   refine ns ?_
   refine Exists.intro _ (And.intro (Zbs (f := Ze.cells) (ZdA (Ze.cells_eq (Ze.mk name_ r5)) (lc (lc (lc (lc (lc Zo)))))) (ZY (f := Ze.cells))) ?_)
   refine st ?_
   refine AWP.seq ?_
   refine ns ?_
   refine Exists.intro _ (And.intro (ZY (f := Ze.cells)) ?_)
   refine st ?_
   refine AWP.seq ?_
   refine AWP.seq ?_
   refine ns ?_
   refine AWP.block ?_
   refine AWP.loop ?_
   refine AWL.weak (rn [(26, 9), (27, 10)]) ?_ (Zmd s name_ r5 ([] : List Ze) 0 s _ hF ([]) rfl rfl)
   exact (WS.mk (tc (Zd (Zal rfl (WE.refl _)) (Zd (Zal rfl (WE.refl _)) (tc Zb)))) Zc)

mutual
def ZB (Zay : (List (ByteArray × Int))) (ZD : (List Ze)) (Zbp : (List Zl)) : Option (Int × Zu × (List Zl)) :=
 if (decide (((Zbp.length : Nat) : Int) > 0)) = true then
 (ixI Zbp (IntKind.i64.wrap (((Zbp.length : Nat) : Int) - 1))) >>= fun x95 =>
 ZaP (Zu.mk ZD Zay) x95.e0 >>= fun r96 =>
 (ixI Zbp (IntKind.i64.wrap (((Zbp.length : Nat) : Int) - 1))) >>= fun x97 =>
 ZaP (Zu.mk ZD Zay) x97.e1 >>= fun r98 =>
 (slL Zbp ((0 : Nat) : Int) (IntKind.i64.wrap (((Zbp.length : Nat) : Int) - 1))) >>= fun Zi9 =>
 if (((r96.fOp == 1) && (r98.fOp == 1)) && (r96.fName.toList == r98.fName.toList)) = true then
 Zp 0 Zay ZD Zi9
 else
 if (r96.fOp == 1) = true then
 ZaE (Zu.mk ZD Zay) r96.fName r98 >>= fun Zv8 =>
 Zp Zv8.1 Zv8.2.fat Zv8.2.flist Zi9
 else
 if (r98.fOp == 1) = true then
 ZaE (Zu.mk ZD Zay) r98.fName r96 >>= fun ZvP =>
 Zp ZvP.1 ZvP.2.fat ZvP.2.flist Zi9
 else
 if (((r96.fOp == 2) && (r98.fOp == 2)) && (r96.fName.toList == r98.fName.toList)) = true then
 Zp 0 Zay ZD Zi9
 else
 if ((r96.fOp == 3) && (r98.fOp == 3)) = true then
 (ixI r96.fKids 1) >>= fun Ztr =>
 (ixI r98.fKids 1) >>= fun ZtM =>
 (ixI r96.fKids 0) >>= fun ZtH =>
 (ixI r98.fKids 0) >>= fun Zti =>
 Z4 ((Zi9.length + ([(Zl.mk Ztr ZtM), (Zl.mk ZtH Zti)]).length) * 144 ≤ 140737488355328) >>= fun _ =>
 Zp 0 Zay ZD (Zi9 ++ ([(Zl.mk Ztr ZtM), (Zl.mk ZtH Zti)]))
 else
 Zp 22 Zay ZD Zi9
 else
 some (0, Zu.mk ZD Zay, Zbp)
 partial_fixpoint
def Zp (e_7 : Int) (Zay : (List (ByteArray × Int))) (ZD : (List Ze)) (Zbp : (List Zl)) : Option (Int × Zu × (List Zl)) :=
 if (e_7 != 0) = true then
 some (e_7, Zu.mk ([] : List Ze) ([] : List (ByteArray × Int)), Zbp)
 else
 ZB Zay ZD Zbp
 partial_fixpoint
end
def ZB.M (Zay : (List (ByteArray × Int))) (ZD : (List Ze)) (Zbp : (List Zl)) (r : Int × Zu × (List Zl)) : Prop :=
 AWL Tryz.prog 124 (Code.sub (Zq Tryz.f32) [1, 0, 0, 0]) (Code.cont Tryz.prog 124 (Zq Tryz.f32) [1, 0, 0] (ZbW tab Tryz.f32.results (ZbY (.c none (.v (.int .i64 r.1))) [(1000, [(none, .rs 7001 r.2.1.flist.length), (none, .rf 1002)]), (1002, [(none, .ob 109 (r.2.1.fat.map (Zeb c_S Zcv)))]), (7001, [(none, .ob 90 (r.2.1.flist.map Ze.cells))]), (7003, [(none, .ob 76 (r.2.2.map Zl.cells))])]))) ⟨[(0, .ptr 1000 0), (1, .c none (.rs 7003 Zbp.length))], [(1000, [(none, .rs 7001 ZD.length), (none, .rf 1002)]), (1002, [(none, .ob 109 (Zay.map (Zeb c_S Zcv)))]), (7001, [(none, .ob 90 (ZD.map Ze.cells))]), (7003, [(none, .ob 76 (Zbp.map Zl.cells))])]⟩
def Zp.M (e_7 : Int) (Zay : (List (ByteArray × Int))) (ZD : (List Ze)) (Zbp : (List Zl)) (r : Int × Zu × (List Zl)) : Prop :=
 AWP Tryz.prog 124 (Code.sub (Zq Tryz.f32) [1, 0, 0, 0, 1, 0, 1, 1, 1, 1]) (Code.cont Tryz.prog 124 (Zq Tryz.f32) [1, 0, 0, 0, 1, 0, 1, 1, 1, 1] (ZbW tab Tryz.f32.results (ZbY (.c none (.v (.int .i64 r.1))) [(1000, [(none, .rs 7001 r.2.1.flist.length), (none, .rf 1002)]), (1002, [(none, .ob 109 (r.2.1.fat.map (Zeb c_S Zcv)))]), (7001, [(none, .ob 90 (r.2.1.flist.map Ze.cells))]), (7003, [(none, .ob 76 (r.2.2.map Zl.cells))])]))) ⟨[(0, .ptr 1000 0), (1, .c none (.rs 7003 Zbp.length)), (7, .c none (.v (.int .i64 e_7)))], [(1000, [(none, .rs 7001 ZD.length), (none, .rf 1002)]), (1002, [(none, .ob 109 (Zay.map (Zeb c_S Zcv)))]), (7001, [(none, .ob 90 (ZD.map Ze.cells))]), (7003, [(none, .ob 76 (Zbp.map Zl.cells))])]⟩
theorem Zgl : (∀ (Zay : (List (ByteArray × Int))) (ZD : (List Ze)) (Zbp : (List Zl)), ∀ r, ZB Zay ZD Zbp = some r → ZB.M Zay ZD Zbp r) ∧ (∀ (e_7 : Int) (Zay : (List (ByteArray × Int))) (ZD : (List Ze)) (Zbp : (List Zl)), ∀ r, Zp e_7 Zay ZD Zbp = some r → Zp.M e_7 Zay ZD Zbp r) := by
 refine ZB.mutual_partial_correctness ZB.M Zp.M ?_ ?_
 ·intro unify_solver_solve_k2' Zcx Zay ZD Zbp r hF
  unfold ZB.M
  refine AWL.step ?_
  refine AWP.seq ?_
  refine AWP.seq ?_
  refine ns ?_
  intro hlen93
  (try rw [List.length_map] at hlen93)
  (try rw [List.length_map])
  refine st ?_
  refine nw ?_
  refine Zi hF (fun ZHN hF => ?_) (fun ZHN hF => ?_)
  ·refine nw ?_
   refine AWP.block ?_
   refine AWP.seq ?_
   obtain ⟨x95, ZEP, ZE2, hF⟩ := ZcL hF
   obtain ⟨r96, ZGZ, hF⟩ := bind_some hF
   obtain ⟨x97, ZGJ, ZEZ, hF⟩ := ZcL hF
   obtain ⟨r98, ZID, hF⟩ := bind_some hF
   refine nn ?_
   refine Or.inl (Exists.intro 20 (Exists.intro [[], [], [], [], [], [], [], [], [1000, 7001, 1002], [], [], [], [], [], [], [], [], [1000, 7001, 1002], [5], [6]] (Exists.intro [([11, 12, 13, 14, 15, 16, 17, 18, 19, 20, 21, 22, 23, 24, 25, 26, 27, 28, 5, 6], [5, 6], []), ([11, 12, 13, 14, 15, 16, 17, 18, 19, 20, 21, 22, 23, 24, 25, 26, 27, 28, 5, 6], [5, 6], []), ([11, 12, 13, 14, 15, 16, 17, 18, 19, 20, 21, 22, 23, 24, 25, 26, 27, 28, 5, 6], [5, 6], []), ([11, 12, 14, 15, 16, 17, 18, 19, 20, 21, 22, 23, 24, 25, 26, 27, 28, 5, 6], [5, 6], []), ([11, 12, 15, 16, 17, 18, 19, 20, 21, 22, 23, 24, 25, 26, 27, 28, 5, 6], [5, 6], []), ([11, 16, 17, 18, 19, 20, 21, 22, 23, 24, 25, 26, 27, 28, 5, 6], [5, 6], []), ([11, 17, 18, 19, 20, 21, 22, 23, 24, 25, 26, 27, 28, 5, 6], [5, 6], []), ([11, 18, 19, 20, 21, 22, 23, 24, 25, 26, 27, 28, 5, 6], [5, 6], []), ([19, 20, 21, 22, 23, 24, 25, 26, 27, 28, 5, 6], [5, 6], [1000, 7001, 1002]), ([11, 12, 13, 14, 15, 16, 17, 18, 19, 20, 21, 22, 23, 24, 25, 26, 27, 28, 5, 6], [1000, 7001, 1002, 5, 6], []), ([11, 12, 13, 14, 15, 16, 17, 18, 19, 20, 21, 22, 23, 24, 25, 26, 27, 28, 5, 6], [1000, 7001, 1002, 5, 6], []), ([11, 12, 13, 14, 15, 16, 17, 18, 19, 20, 21, 22, 23, 24, 25, 26, 27, 28, 5, 6], [1000, 7001, 1002, 5, 6], []), ([11, 12, 13, 14, 15, 16, 17, 18, 19, 20, 21, 23, 24, 25, 26, 27, 28, 5, 6], [1000, 7001, 1002, 5, 6], []), ([11, 12, 13, 14, 15, 16, 17, 18, 19, 20, 21, 24, 25, 26, 27, 28, 5, 6], [1000, 7001, 1002, 5, 6], []), ([11, 12, 13, 14, 15, 16, 17, 18, 19, 20, 25, 26, 27, 28, 5, 6], [1000, 7001, 1002, 5, 6], []), ([11, 12, 13, 14, 15, 16, 17, 18, 19, 20, 26, 27, 28, 5, 6], [1000, 7001, 1002, 5, 6], []), ([11, 12, 13, 14, 15, 16, 17, 18, 19, 20, 27, 28, 5, 6], [1000, 7001, 1002, 5, 6], []), ([28, 5, 6], [5, 6], [1000, 7001, 1002]), ([11, 12, 13, 14, 15, 16, 17, 18, 19, 20, 21, 22, 23, 24, 25, 26, 27, 28, 5, 6], [1000, 7001, 1002, 1000, 7001, 1002, 6], [5]), ([11, 12, 13, 14, 15, 16, 17, 18, 19, 20, 21, 22, 23, 24, 25, 26, 27, 28, 5, 6], [1000, 7001, 1002, 1000, 7001, 1002, 5], [6])] (Exists.intro [11, 12, 13, 14, 15, 16, 17, 18, 19, 20, 21, 22, 23, 24, 25, 26, 27, 28, 5, 6] (And.intro (by decide +kernel) ?_)))))
   refine dp ?_
   refine dp ?_
   refine dp ?_
   refine dl ?_
   refine dp ?_
   refine da (ZpL ZEP ZE2) ?_
   refine dp ?_
   refine dr (ZbX (Zl.cells_eq x95) ZE2) ?_
   (refine st ?_; apply Exists.intro; apply Exists.intro; apply And.intro; (focus ((conv => whnf); refine Exists.intro [(1000, 1000), (7001, 1001), (1002, 1002)] ?_; (conv => whnf); refine And.intro rfl ?_; (conv => whnf); refine Zj.mono (Zj.weak (rn []) (ZgK (Zu.mk ZD Zay) x95.e0 _ ZGZ) rfl (WS.mk (tp (Zd (Zt (lc (lc (lc (lc Zo))))) Zb)) (Zf rfl (Ze3 (Zaf (by first | exact rfl | simp only [List.length_set])) (cc Zh)) (Zf rfl (cc Zh) (Zf rfl (cc Zh) Zc))))) ?_; rintro d b ⟨rfl, rfl⟩; exact And.intro rfl (And.intro rfl rfl))); apply And.intro; (focus exact rfl); (conv => whnf))
   refine dp ?_
   refine dp ?_
   refine dp ?_
   refine dl ?_
   refine dp ?_
   refine da (ZpL ZGJ ZEZ) ?_
   refine dp ?_
   refine dr (ZbX (Zl.cells_eq x97) ZEZ) ?_
   (refine st ?_; apply Exists.intro; apply Exists.intro; apply And.intro; (focus ((conv => whnf); refine Exists.intro [(1000, 1000), (7001, 1001), (1002, 1002)] ?_; (conv => whnf); refine And.intro rfl ?_; (conv => whnf); refine Zj.mono (Zj.weak (rn []) (ZgK (Zu.mk ZD Zay) x97.e1 _ ZID) rfl (WS.mk (tp (Zd (Zt (lc (lc (lc (lc Zo))))) Zb)) (Zf rfl (Ze3 (Zaf (by first | exact rfl | simp only [List.length_set])) (cc Zh)) (Zf rfl (cc Zh) (Zf rfl (cc Zh) Zc))))) ?_; rintro d b ⟨rfl, rfl⟩; exact And.intro rfl (And.intro rfl rfl))); apply And.intro; (focus exact rfl); (conv => whnf))
   refine dp ?_
   refine dp ?_
   refine st ?_
   refine AWP.seq ?_
   obtain ⟨Zi9, ZCj, ZC8, Zy8, ZB6, hF⟩ := Zu1 hF
   refine ns ?_
   intro hlen99
   (try rw [List.length_map] at hlen99)
   (try rw [List.length_map])
   refine s3 ZCj ZC8 Zy8 ?_
   refine Exists.intro (Zi9.map Zl.cells) (Exists.intro Zi9.length (And.intro (ZB4 ZB6) (And.intro (Zzr Zy8 ZB6) ?_)))
   refine st ?_
   refine AWP.seq ?_
   refine ns ?_
   refine AWP.seq ?_
   refine AWP.block ?_
   refine AWP.seq ?_
   refine AWP.cutN (fun T => ∃ r, WS r T ⟨[(0, .ptr 1000 0), (1, .c none (.rs 7003 Zi9.length)), (5, .ptr 5 0), (6, .ptr 6 0), (7, .c none (.v (.int .i64 0))), (34, .c none (.v (.bool (((r96.fOp == 1) && (r98.fOp == 1)) && (r96.fName.toList == r98.fName.toList)))))], [(5, [(none, .v (.int .i64 r96.fOp)), (none, .v (.string r96.fName)), (none, .sl (r96.fBound.fArgs.map Zk.cells)), (none, .sl (r96.fKids.map Za.cells))]), (6, [(none, .v (.int .i64 r98.fOp)), (none, .v (.string r98.fName)), (none, .sl (r98.fBound.fArgs.map Zk.cells)), (none, .sl (r98.fKids.map Za.cells))]), (1000, [(none, .rs 7001 ZD.length), (none, .rf 1002)]), (1002, [(none, .ob 109 (Zay.map (Zeb c_S Zcv)))]), (7001, [(none, .ob 90 (ZD.map Ze.cells))]), (7003, [(none, .ob 76 (Zi9.map Zl.cells))])]⟩) ?_ (fun T hw => ?_)
   ·refine ns ?_
    refine Zm true (fun ZsC => ?_) (fun ZsC => ?_)
    ·(conv => whnf)
     refine st ?_
     refine Zm true (fun Zzn => ?_) (fun Zzn => ?_)
     ·(conv => whnf)
      refine st ?_
      exact wx (WS.mk (tp (Zd (Zr (Zaf (by first | exact rfl | simp only [List.length_set]))) (tp (tp (tc (Zd (Zr (web (And.intro ZsC Zzn))) Zb)))))) (Zf rfl (cc (cc (cc (cc Zh)))) (Zf rfl (cc (cc (cc (cc Zh)))) (Zf rfl (Ze3 (Zaf (by first | exact rfl | simp only [List.length_set])) (cc Zh)) (Zf rfl (cc Zh) (Zf rfl (cc Zh) (Zf rfl (cc Zh) Zc)))))))
     ·(conv => whnf)
      refine st ?_
      exact wx (WS.mk (tp (Zd (Zr (Zaf (by first | exact rfl | simp only [List.length_set]))) (tp (tp (tc (Zd (Zr (web (And.intro ZsC Zzn))) Zb)))))) (Zf rfl (cc (cc (cc (cc Zh)))) (Zf rfl (cc (cc (cc (cc Zh)))) (Zf rfl (Ze3 (Zaf (by first | exact rfl | simp only [List.length_set])) (cc Zh)) (Zf rfl (cc Zh) (Zf rfl (cc Zh) (Zf rfl (cc Zh) Zc)))))))
    ·(conv => whnf)
     refine st ?_
     exact wx (WS.mk (tp (Zd (Zr (Zaf (by first | exact rfl | simp only [List.length_set]))) (tp (tp (tc (Zd (Zr (web ZsC)) Zb)))))) (Zf rfl (cc (cc (cc (cc Zh)))) (Zf rfl (cc (cc (cc (cc Zh)))) (Zf rfl (Ze3 (Zaf (by first | exact rfl | simp only [List.length_set])) (cc Zh)) (Zf rfl (cc Zh) (Zf rfl (cc Zh) (Zf rfl (cc Zh) Zc)))))))
   obtain ⟨r0, hw⟩ := hw
   (conv => whnf)
   refine AWP.weak r0 hw ?_
   refine nw ?_
   refine Zi hF (fun ZGf hF => ?_) (fun ZGf hF => ?_)
   ·refine nw ?_
    refine AWP.weak (rn []) ?_ (Zcx 0 Zay ZD Zi9 _ hF)
    exact (WS.mk (tp (Zd (Zr (Zaf (by first | exact rfl | simp only [List.length_set]))) (tc Zb))) (Zf rfl (Ze3 (Zaf (by first | exact rfl | simp only [List.length_set])) (cc Zh)) (Zf rfl (cc Zh) (Zf rfl (cc Zh) (Zf rfl (cc Zh) Zc)))))
   ·refine AWP.seq ?_
    refine ns ?_
    refine nw ?_
    refine Zi hF (fun ZyT hF => ?_) (fun ZyT hF => ?_)
    ·obtain ⟨Zv8, ZFq, hF⟩ := bind_some hF
     refine ns ?_
     refine Exists.intro [] (Exists.intro [(1000, 1000), (7001, 7001), (1002, 1002)] (Exists.intro [] ?_))
     refine st ?_
     refine cm (Zj.weak (rn []) (Ziy (Zu.mk ZD Zay) r96.fName r98 _ ZFq) rfl (WS.mk (tp (tc (Zd (Zt (lc (lc (lc (lc Zo))))) Zb))) (Zf rfl (Ze3 (Zaf (by first | exact rfl | simp only [List.length_set])) (cc Zh)) (Zf rfl (cc Zh) (Zf rfl (cc Zh) Zc))))) ?_
     refine st ?_
     refine AWP.weak (rn []) ?_ (Zcx Zv8.1 Zv8.2.fat Zv8.2.flist Zi9 _ hF)
     exact (WS.mk (tp (Zd (Zr (Zaf (by first | exact rfl | simp only [List.length_set]))) (tc Zb))) (Zf rfl (Ze3 (Zaf (by first | exact rfl | simp only [List.length_set])) (cc Zh)) (Zf rfl (cc Zh) (Zf rfl (cc Zh) (Zf rfl (cc Zh) Zc)))))
    ·refine AWP.seq ?_
     refine ns ?_
     refine nw ?_
     refine Zi hF (fun ZEv hF => ?_) (fun ZEv hF => ?_)
     ·obtain ⟨ZvP, ZFz, hF⟩ := bind_some hF
      refine ns ?_
      refine Exists.intro [] (Exists.intro [(1000, 1000), (7001, 7001), (1002, 1002)] (Exists.intro [] ?_))
      refine st ?_
      refine cm (Zj.weak (rn []) (Ziy (Zu.mk ZD Zay) r98.fName r96 _ ZFz) rfl (WS.mk (tp (tc (Zd (Zt (lc (lc (lc (lc Zo))))) Zb))) (Zf rfl (Ze3 (Zaf (by first | exact rfl | simp only [List.length_set])) (cc Zh)) (Zf rfl (cc Zh) (Zf rfl (cc Zh) Zc))))) ?_
      refine st ?_
      refine AWP.weak (rn []) ?_ (Zcx ZvP.1 ZvP.2.fat ZvP.2.flist Zi9 _ hF)
      exact (WS.mk (tp (Zd (Zr (Zaf (by first | exact rfl | simp only [List.length_set]))) (tc Zb))) (Zf rfl (Ze3 (Zaf (by first | exact rfl | simp only [List.length_set])) (cc Zh)) (Zf rfl (cc Zh) (Zf rfl (cc Zh) (Zf rfl (cc Zh) Zc)))))
     ·refine AWP.seq ?_
      refine AWP.cutN (fun T => ∃ r, WS r T ⟨[(0, .ptr 1000 0), (1, .c none (.rs 7003 Zi9.length)), (5, .ptr 5 0), (6, .ptr 6 0), (7, .c none (.v (.int .i64 0))), (68, .c none (.v (.bool (((r96.fOp == 2) && (r98.fOp == 2)) && (r96.fName.toList == r98.fName.toList)))))], [(5, [(none, .v (.int .i64 r96.fOp)), (none, .v (.string r96.fName)), (none, .sl (r96.fBound.fArgs.map Zk.cells)), (none, .sl (r96.fKids.map Za.cells))]), (6, [(none, .v (.int .i64 r98.fOp)), (none, .v (.string r98.fName)), (none, .sl (r98.fBound.fArgs.map Zk.cells)), (none, .sl (r98.fKids.map Za.cells))]), (1000, [(none, .rs 7001 ZD.length), (none, .rf 1002)]), (1002, [(none, .ob 109 (Zay.map (Zeb c_S Zcv)))]), (7001, [(none, .ob 90 (ZD.map Ze.cells))]), (7003, [(none, .ob 76 (Zi9.map Zl.cells))])]⟩) ?_ (fun T hw => ?_)
      ·refine ns ?_
       refine Zm true (fun Zw7 => ?_) (fun Zw7 => ?_)
       ·(conv => whnf)
        refine st ?_
        refine Zm true (fun Zyv => ?_) (fun Zyv => ?_)
        ·(conv => whnf)
         refine st ?_
         exact wx (WS.mk (tp (Zd (Zr (Zaf (by first | exact rfl | simp only [List.length_set]))) (tp (tp (tc (Zd (Zr (web (And.intro Zw7 Zyv))) Zb)))))) (Zf rfl (cc (cc (cc (cc Zh)))) (Zf rfl (cc (cc (cc (cc Zh)))) (Zf rfl (Ze3 (Zaf (by first | exact rfl | simp only [List.length_set])) (cc Zh)) (Zf rfl (cc Zh) (Zf rfl (cc Zh) (Zf rfl (cc Zh) Zc)))))))
        ·(conv => whnf)
         refine st ?_
         exact wx (WS.mk (tp (Zd (Zr (Zaf (by first | exact rfl | simp only [List.length_set]))) (tp (tp (tc (Zd (Zr (web (And.intro Zw7 Zyv))) Zb)))))) (Zf rfl (cc (cc (cc (cc Zh)))) (Zf rfl (cc (cc (cc (cc Zh)))) (Zf rfl (Ze3 (Zaf (by first | exact rfl | simp only [List.length_set])) (cc Zh)) (Zf rfl (cc Zh) (Zf rfl (cc Zh) (Zf rfl (cc Zh) Zc)))))))
       ·(conv => whnf)
        refine st ?_
        exact wx (WS.mk (tp (Zd (Zr (Zaf (by first | exact rfl | simp only [List.length_set]))) (tp (tp (tc (Zd (Zr (web Zw7)) Zb)))))) (Zf rfl (cc (cc (cc (cc Zh)))) (Zf rfl (cc (cc (cc (cc Zh)))) (Zf rfl (Ze3 (Zaf (by first | exact rfl | simp only [List.length_set])) (cc Zh)) (Zf rfl (cc Zh) (Zf rfl (cc Zh) (Zf rfl (cc Zh) Zc)))))))
      obtain ⟨r0, hw⟩ := hw
      (conv => whnf)
      refine AWP.weak r0 hw ?_
      refine nw ?_
      refine Zi hF (fun ZFG hF => ?_) (fun ZFG hF => ?_)
      ·refine nw ?_
       refine AWP.weak (rn []) ?_ (Zcx 0 Zay ZD Zi9 _ hF)
       exact (WS.mk (tp (Zd (Zr (Zaf (by first | exact rfl | simp only [List.length_set]))) (tc Zb))) (Zf rfl (Ze3 (Zaf (by first | exact rfl | simp only [List.length_set])) (cc Zh)) (Zf rfl (cc Zh) (Zf rfl (cc Zh) (Zf rfl (cc Zh) Zc)))))
      ·refine AWP.seq ?_
       refine AWP.cutN (fun T => ∃ r, WS r T ⟨[(0, .ptr 1000 0), (1, .c none (.rs 7003 Zi9.length)), (5, .ptr 5 0), (6, .ptr 6 0), (7, .c none (.v (.int .i64 0))), (84, .c none (.v (.bool ((r96.fOp == 3) && (r98.fOp == 3)))))], [(5, [(none, .v (.int .i64 r96.fOp)), (none, .v (.string r96.fName)), (none, .sl (r96.fBound.fArgs.map Zk.cells)), (none, .sl (r96.fKids.map Za.cells))]), (6, [(none, .v (.int .i64 r98.fOp)), (none, .v (.string r98.fName)), (none, .sl (r98.fBound.fArgs.map Zk.cells)), (none, .sl (r98.fKids.map Za.cells))]), (1000, [(none, .rs 7001 ZD.length), (none, .rf 1002)]), (1002, [(none, .ob 109 (Zay.map (Zeb c_S Zcv)))]), (7001, [(none, .ob 90 (ZD.map Ze.cells))]), (7003, [(none, .ob 76 (Zi9.map Zl.cells))])]⟩) ?_ (fun T hw => ?_)
       ·refine ns ?_
        refine Zm true (fun Zy7 => ?_) (fun Zy7 => ?_)
        ·(conv => whnf)
         refine st ?_
         exact wx (WS.mk (tp (Zd (Zr (Zaf (by first | exact rfl | simp only [List.length_set]))) (tp (tp (tc (Zd (Zr (web Zy7)) Zb)))))) (Zf rfl (cc (cc (cc (cc Zh)))) (Zf rfl (cc (cc (cc (cc Zh)))) (Zf rfl (Ze3 (Zaf (by first | exact rfl | simp only [List.length_set])) (cc Zh)) (Zf rfl (cc Zh) (Zf rfl (cc Zh) (Zf rfl (cc Zh) Zc)))))))
        ·(conv => whnf)
         refine st ?_
         exact wx (WS.mk (tp (Zd (Zr (Zaf (by first | exact rfl | simp only [List.length_set]))) (tp (tp (tc (Zd (Zr (web Zy7)) Zb)))))) (Zf rfl (cc (cc (cc (cc Zh)))) (Zf rfl (cc (cc (cc (cc Zh)))) (Zf rfl (Ze3 (Zaf (by first | exact rfl | simp only [List.length_set])) (cc Zh)) (Zf rfl (cc Zh) (Zf rfl (cc Zh) (Zf rfl (cc Zh) Zc)))))))
       obtain ⟨r0, hw⟩ := hw
       (conv => whnf)
       refine AWP.weak r0 hw ?_
       refine nw ?_
       refine Zi hF (fun ZEJ hF => ?_) (fun ZEJ hF => ?_)
       ·obtain ⟨Ztr, hx1360, ZE3, hF⟩ := ZcL hF
        obtain ⟨ZtM, hx1370, ZGr, hF⟩ := ZcL hF
        obtain ⟨ZtH, hx1380, ZFe, hF⟩ := ZcL hF
        obtain ⟨Zti, hx1390, ZFY, hF⟩ := ZcL hF
        obtain ⟨ZED, hF⟩ := Zy hF
        refine nn ?_
        refine Or.inl (Exists.intro 20 (Exists.intro [[], [], [], [], [], [], [], [], [], [], [], [], [], [], [], [], [], [], [], []] (Exists.intro [([93, 94, 95, 96, 97, 98, 99, 100, 101, 102, 103, 104, 105, 106, 107, 108, 109, 110, 111, 112], [], []), ([93, 94, 95, 96, 97, 98, 99, 100, 101, 102, 103, 104, 105, 106, 107, 108, 109, 110, 111, 112], [], []), ([93, 95, 96, 97, 98, 99, 100, 101, 102, 103, 104, 105, 106, 107, 108, 109, 110, 111, 112], [], []), ([93, 96, 97, 98, 99, 100, 101, 102, 103, 104, 105, 106, 107, 108, 109, 110, 111, 112], [], []), ([93, 97, 98, 99, 100, 101, 102, 103, 104, 105, 106, 107, 108, 109, 110, 111, 112], [], []), ([93, 94, 95, 96, 97, 98, 99, 100, 101, 102, 103, 104, 105, 106, 107, 108, 109, 110, 111, 112], [], []), ([93, 94, 95, 96, 97, 99, 100, 101, 102, 103, 104, 105, 106, 107, 108, 109, 110, 111, 112], [], []), ([93, 94, 95, 96, 97, 100, 101, 102, 103, 104, 105, 106, 107, 108, 109, 110, 111, 112], [], []), ([93, 94, 95, 96, 97, 101, 102, 103, 104, 105, 106, 107, 108, 109, 110, 111, 112], [], []), ([93, 102, 103, 104, 105, 106, 107, 108, 109, 110, 111, 112], [], []), ([93, 94, 95, 96, 97, 98, 99, 100, 101, 102, 103, 104, 105, 106, 107, 108, 109, 110, 111, 112], [], []), ([93, 94, 95, 96, 97, 98, 99, 100, 101, 102, 104, 105, 106, 107, 108, 109, 110, 111, 112], [], []), ([93, 94, 95, 96, 97, 98, 99, 100, 101, 102, 105, 106, 107, 108, 109, 110, 111, 112], [], []), ([93, 94, 95, 96, 97, 98, 99, 100, 101, 102, 106, 107, 108, 109, 110, 111, 112], [], []), ([93, 94, 95, 96, 97, 98, 99, 100, 101, 102, 103, 104, 105, 106, 107, 108, 109, 110, 111, 112], [], []), ([93, 94, 95, 96, 97, 98, 99, 100, 101, 102, 103, 104, 105, 106, 108, 109, 110, 111, 112], [], []), ([93, 94, 95, 96, 97, 98, 99, 100, 101, 102, 103, 104, 105, 106, 109, 110, 111, 112], [], []), ([93, 94, 95, 96, 97, 98, 99, 100, 101, 102, 103, 104, 105, 106, 110, 111, 112], [], []), ([93, 94, 95, 96, 97, 98, 99, 100, 101, 102, 111, 112], [], []), ([93, 112], [], [])] (Exists.intro [93, 94, 95, 96, 97, 98, 99, 100, 101, 102, 103, 104, 105, 106, 107, 108, 109, 110, 111, 112] (And.intro (by decide +kernel) ?_)))))
        refine dp ?_
        refine dp ?_
        refine dp ?_
        refine dr (ZbX (Za.cells_eq Ztr) ZE3) ?_
        refine dp ?_
        refine dp ?_
        refine dp ?_
        refine dr (ZbX (Za.cells_eq ZtM) ZGr) ?_
        refine dp ?_
        refine dp ?_
        refine dp ?_
        refine dp ?_
        refine dr (ZbX (Za.cells_eq ZtH) ZFe) ?_
        refine dp ?_
        refine dp ?_
        refine dp ?_
        refine dr (ZbX (Za.cells_eq Zti) ZFY) ?_
        refine dp ?_
        refine dp ?_
        refine de (Zbs (f := Zl.cells) (ZdA (Zl.cells_eq (Zl.mk Ztr ZtM)) (lc (lc (lc (lc (lc (lc (lc (lc Zo))))))))) (Zbs (f := Zl.cells) (ZdA (Zl.cells_eq (Zl.mk ZtH Zti)) (lc (lc (lc (lc (lc (lc (lc (lc Zo))))))))) (ZY (f := Zl.cells)))) ?_
        refine sa (fun l => ZbO l (fun x => Zl.cells_len x)) ZED ?_
        refine Exists.intro (([(Zl.mk Ztr ZtM), (Zl.mk ZtH Zti)]).map Zl.cells) (Exists.intro ((Zi9 ++ ([(Zl.mk Ztr ZtM), (Zl.mk ZtH Zti)])).map Zl.cells) (Exists.intro (Zi9 ++ ([(Zl.mk Ztr ZtM), (Zl.mk ZtH Zti)])).length (And.intro (WE.refl _) (And.intro (ZrD (by first | exact rfl | simp only [List.length_set])) (And.intro (Zq6 (by first | exact rfl | simp only [List.length_set]) (by first | exact List.length_map _ | exact rfl)) ?_)))))
        refine st ?_
        refine AWP.weak (rn []) ?_ (Zcx 0 Zay ZD (Zi9 ++ ([(Zl.mk Ztr ZtM), (Zl.mk ZtH Zti)])) _ hF)
        exact (WS.mk (tp (Zd (Zr (Zaf (by first | exact rfl | simp only [List.length_set]))) (tc Zb))) (Zf rfl (Ze3 (Zaf (by first | exact rfl | simp only [List.length_set])) (cc Zh)) (Zf rfl (cc Zh) (Zf rfl (cc Zh) (Zf rfl (cc Zh) Zc)))))
       ·refine ns ?_
        refine AWP.weak (rn []) ?_ (Zcx 22 Zay ZD Zi9 _ hF)
        exact (WS.mk (tp (Zd (Zr (Zaf (by first | exact rfl | simp only [List.length_set]))) (tc Zb))) (Zf rfl (Ze3 (Zaf (by first | exact rfl | simp only [List.length_set])) (cc Zh)) (Zf rfl (cc Zh) (Zf rfl (cc Zh) (Zf rfl (cc Zh) Zc)))))
  ·refine nw ?_
   refine AWP.seq ?_
   refine ns ?_
   obtain rfl := Zg hF
   refine ns ?_
   refine Exists.intro [(1000, 1000), (7001, 7001), (1002, 1002), (7003, 7003)] ?_
   refine st ?_
   exact wx (WS.mk (tc Zb) (Zf rfl (Ze3 (Zaf (by first | exact rfl | simp only [List.length_set])) (cc Zh)) (Zf rfl (cc Zh) (Zf rfl (cc Zh) (Zf rfl (cc Zh) Zc)))))
 ·intro unify_solver_solve_l1' Zky e_7 Zay ZD Zbp r hF
  unfold Zp.M
  refine AWP.seq ?_
  refine ns ?_
  refine nw ?_
  refine Zi hF (fun ZGv hF => ?_) (fun ZGv hF => ?_)
  ·refine AWP.seq ?_
   refine ns ?_
   refine AWP.seq ?_
   refine ns ?_
   refine AWP.thawB 1000 0 7001 45 rfl rfl ?_
   refine AWP.force ?_
   (conv => whnf)
   refine AWP.seq ?_
   refine ns ?_
   obtain rfl := Zg hF
   refine ns ?_
   refine Exists.intro [(1000, 1000), (7001, 7001), (1002, 1002), (7003, 7003)] ?_
   refine st ?_
   exact wx (WS.mk (tc Zb) (Zf rfl (Ze3 (Zaf (by first | exact rfl | simp only [List.length_set])) (cc Zh)) (Zf rfl (cc Zh) (Zf rfl (cc Zh) (Zf rfl (cc Zh) Zc)))))
  ·refine nw ?_
   refine AWL.weak (rn []) ?_ (Zky Zay ZD Zbp _ hF)
   exact (WS.mk (tp (Zd (Zr (Zaf (by first | exact rfl | simp only [List.length_set]))) Zb)) (Zf rfl (Ze3 (Zaf (by first | exact rfl | simp only [List.length_set])) (cc Zh)) (Zf rfl (cc Zh) (Zf rfl (cc Zh) (Zf rfl (cc Zh) Zc)))))
theorem ZkB : ∀ (Zay : (List (ByteArray × Int))) (ZD : (List Ze)) (Zbp : (List Zl)), ∀ r, ZB Zay ZD Zbp = some r → ZB.M Zay ZD Zbp r := Zgl.1
theorem unify_solver_solve_k2_ok : ∀ (e_7 : Int) (Zay : (List (ByteArray × Int))) (ZD : (List Ze)) (Zbp : (List Zl)), ∀ r, Zp e_7 Zay ZD Zbp = some r → Zp.M e_7 Zay ZD Zbp r := Zgl.2

def ZcS (s : Zu) (todo : (List Zl)) : Option (Int × Zu × (List Zl)) :=
 ZB s.fat s.flist todo
def ZcS.M (s : Zu) (todo : (List Zl)) (r : Int × Zu × (List Zl)) : Prop :=
 Zj Tryz.prog 32 [.ptr 1000 0, .c none (.rs 7003 todo.length)] [(1000, [(none, .rs 7001 s.flist.length), (none, .rf 1002)]), (1002, [(none, .ob 109 (s.fat.map (Zeb c_S Zcv)))]), (7001, [(none, .ob 90 (s.flist.map Ze.cells))]), (7003, [(none, .ob 76 (todo.map Zl.cells))])] (fun d b => d = .c none (.v (.int .i64 r.1)) ∧ b = [(1000, [(none, .rs 7001 r.2.1.flist.length), (none, .rf 1002)]), (1002, [(none, .ob 109 (r.2.1.fat.map (Zeb c_S Zcv)))]), (7001, [(none, .ob 90 (r.2.1.flist.map Ze.cells))]), (7003, [(none, .ob 76 (r.2.2.map Zl.cells))])])
theorem Zmk (s : Zu) (todo : (List Zl)) (r : Int × Zu × (List Zl)) (hF : ZcS s todo = some r) : ZcS.M s todo r := by
 unfold ZcS at hF
 unfold ZcS.M
 refine en Tryz.func32 ?_
 refine AWP.seq ?_
 refine ns ?_
 refine AWP.seq ?_
 refine AWP.block ?_
 refine AWP.loop ?_
 refine AWL.weak (rn []) ?_ (ZkB s.fat s.flist todo _ hF)
 exact (WS.mk (tp (Zd (Zr (Zaf (by first | exact rfl | simp only [List.length_set]))) Zb)) (Zf rfl (Ze3 (Zaf (by first | exact rfl | simp only [List.length_set])) (cc Zh)) (Zf rfl (cc Zh) (Zf rfl (cc Zh) (Zf rfl (cc Zh) Zc)))))

def Zs (s_6 : (List Ze)) (e_7 : Int) (ZG : (List Zl)) : Option ((List Ze) × Int) :=
 if ((decide (((ZG.length : Nat) : Int) > 0)) && (e_7 == 0)) = true then
 (ixI ZG (IntKind.i64.wrap (((ZG.length : Nat) : Int) - 1))) >>= fun ZBn =>
 Zbi s_6 ZBn.e0 >>= fun Zhl =>
 (ixI ZG (IntKind.i64.wrap (((ZG.length : Nat) : Int) - 1))) >>= fun ZBA =>
 Zbi s_6 ZBA.e1 >>= fun Zhm =>
 (slL ZG ((0 : Nat) : Int) (IntKind.i64.wrap (((ZG.length : Nat) : Int) - 1))) >>= fun Zje =>
 if (((Zhl.fOp == 1) && (Zhm.fOp == 1)) && (Zhl.fName.toList == Zhm.fName.toList)) = true then
 Zs s_6 e_7 Zje
 else
 if (Zhl.fOp == 1) = true then
 Za8 s_6 Zhl.fName Zhm >>= fun ZAH =>
 Zs ZAH.1 ZAH.2 Zje
 else
 if (Zhm.fOp == 1) = true then
 Za8 s_6 Zhm.fName Zhl >>= fun ZAL =>
 Zs ZAL.1 ZAL.2 Zje
 else
 if (((Zhl.fOp == 2) && (Zhm.fOp == 2)) && (Zhl.fName.toList == Zhm.fName.toList)) = true then
 Zs s_6 e_7 Zje
 else
 if ((Zhl.fOp == 3) && (Zhm.fOp == 3)) = true then
 (ixI Zhl.fKids 1) >>= fun Zt1 =>
 (ixI Zhm.fKids 1) >>= fun ZtA =>
 (ixI Zhl.fKids 0) >>= fun Zt5 =>
 (ixI Zhm.fKids 0) >>= fun Zt9 =>
 Z4 ((Zje.length + ([(Zl.mk Zt1 ZtA), (Zl.mk Zt5 Zt9)]).length) * 144 ≤ 140737488355328) >>= fun _ =>
 Zs s_6 e_7 (Zje ++ ([(Zl.mk Zt1 ZtA), (Zl.mk Zt5 Zt9)]))
 else
 Zs s_6 22 Zje
 else
 if (e_7 != 0) = true then
 some (([] : List Ze), e_7)
 else
 some (s_6, 0)
 partial_fixpoint
def Zs.M (s_6 : (List Ze)) (e_7 : Int) (ZG : (List Zl)) (r : (List Ze) × Int) : Prop :=
 AWL Tryz.prog 162 (Code.sub (Zq Tryz.f16) [1, 1, 1, 1, 1, 0, 0, 0]) (Code.cont Tryz.prog 162 (Zq Tryz.f16) [1, 1, 1, 1, 1, 0, 0] (ZbW tab Tryz.f16.results (ZbY (.tup [.c (.sl (r.1.map Ze.cells)), .c (.v (.int .i64 r.2))]) []))) ⟨[(4, .c none (.rs 6004 ZG.length)), (6, .c none (.sl (s_6.map Ze.cells))), (7, .c none (.v (.int .i64 e_7)))], [(6004, [(none, .ob 76 (ZG.map Zl.cells))])]⟩
theorem ZmC (s_6 : (List Ze)) (e_7 : Int) (ZG : (List Zl)) : ∀ r, Zs s_6 e_7 ZG = some r → Zs.M s_6 e_7 ZG r := by
 refine Zs.partial_correctness (fun s_6 e_7 ZG r => Zs.M s_6 e_7 ZG r) ?_ s_6 e_7 ZG
 intro lazycref18_All_l2' Zh0 s_6 e_7 ZG r hF
 have Zdu := fun (s_6 : (List Ze)) (e_7 : Int) (ZG : (List Zl)) => Zh0 s_6 e_7 ZG
 clear Zh0
 unfold Zs.M
 refine AWL.step ?_
 refine AWP.seq ?_
 refine AWP.seq ?_
 refine AWP.cutN (fun T => ∃ r, WS r T ⟨[(4, .c none (.rs 6004 ZG.length)), (6, .c none (.sl (s_6.map Ze.cells))), (7, .c none (.v (.int .i64 e_7))), (48, .c none (.v (.bool ((decide (((ZG.length : Nat) : Int) > 0)) && (e_7 == 0)))))], [(6004, [(none, .ob 76 (ZG.map Zl.cells))])]⟩) ?_ (fun T hw => ?_)
 ·refine ns ?_
  intro hlen237
  (try rw [List.length_map] at hlen237)
  (try rw [List.length_map])
  refine st ?_
  refine Zm true (fun ZyF => ?_) (fun ZyF => ?_)
  ·(conv => whnf)
   refine st ?_
   exact wx (WS.mk (Zd (Zr (Zaf (by first | exact rfl | simp only [List.length_set]))) (tc (tc (Zd (Zr (web ZyF)) Zb)))) (Zf rfl (cc Zh) Zc))
  ·(conv => whnf)
   refine st ?_
   exact wx (WS.mk (Zd (Zr (Zaf (by first | exact rfl | simp only [List.length_set]))) (tc (tc (Zd (Zr (web ZyF)) Zb)))) (Zf rfl (cc Zh) Zc))
 obtain ⟨r0, hw⟩ := hw
 (conv => whnf)
 refine AWP.weak r0 hw ?_
 refine nw ?_
 refine Zi hF (fun ZFM hF => ?_) (fun ZFM hF => ?_)
 ·refine nw ?_
  refine AWP.block ?_
  refine AWP.seq ?_
  obtain ⟨ZBn, ZDI, ZBV, hF⟩ := ZcL hF
  obtain ⟨Zhl, ZES, hF⟩ := bind_some hF
  obtain ⟨ZBA, ZCi, ZB7, hF⟩ := ZcL hF
  obtain ⟨Zhm, ZEM, hF⟩ := bind_some hF
  refine nn ?_
  refine Or.inl (Exists.intro 20 (Exists.intro [[], [], [], [], [], [], [], [], [], [], [], [], [], [], [], [], [], [], [8], [9]] (Exists.intro [([49, 50, 51, 52, 53, 54, 55, 56, 57, 58, 59, 60, 61, 62, 63, 64, 65, 66, 8, 9], [8, 9], []), ([49, 50, 51, 52, 53, 54, 55, 56, 57, 58, 59, 60, 61, 62, 63, 64, 65, 66, 8, 9], [8, 9], []), ([49, 50, 51, 52, 53, 54, 55, 56, 57, 58, 59, 60, 61, 62, 63, 64, 65, 66, 8, 9], [8, 9], []), ([49, 50, 52, 53, 54, 55, 56, 57, 58, 59, 60, 61, 62, 63, 64, 65, 66, 8, 9], [8, 9], []), ([49, 50, 53, 54, 55, 56, 57, 58, 59, 60, 61, 62, 63, 64, 65, 66, 8, 9], [8, 9], []), ([49, 54, 55, 56, 57, 58, 59, 60, 61, 62, 63, 64, 65, 66, 8, 9], [8, 9], []), ([49, 55, 56, 57, 58, 59, 60, 61, 62, 63, 64, 65, 66, 8, 9], [8, 9], []), ([49, 56, 57, 58, 59, 60, 61, 62, 63, 64, 65, 66, 8, 9], [8, 9], []), ([57, 58, 59, 60, 61, 62, 63, 64, 65, 66, 8, 9], [8, 9], []), ([49, 50, 51, 52, 53, 54, 55, 56, 57, 58, 59, 60, 61, 62, 63, 64, 65, 66, 8, 9], [8, 9], []), ([49, 50, 51, 52, 53, 54, 55, 56, 57, 58, 59, 60, 61, 62, 63, 64, 65, 66, 8, 9], [8, 9], []), ([49, 50, 51, 52, 53, 54, 55, 56, 57, 58, 59, 60, 61, 62, 63, 64, 65, 66, 8, 9], [8, 9], []), ([49, 50, 51, 52, 53, 54, 55, 56, 57, 58, 59, 61, 62, 63, 64, 65, 66, 8, 9], [8, 9], []), ([49, 50, 51, 52, 53, 54, 55, 56, 57, 58, 59, 62, 63, 64, 65, 66, 8, 9], [8, 9], []), ([49, 50, 51, 52, 53, 54, 55, 56, 57, 58, 63, 64, 65, 66, 8, 9], [8, 9], []), ([49, 50, 51, 52, 53, 54, 55, 56, 57, 58, 64, 65, 66, 8, 9], [8, 9], []), ([49, 50, 51, 52, 53, 54, 55, 56, 57, 58, 65, 66, 8, 9], [8, 9], []), ([66, 8, 9], [8, 9], []), ([49, 50, 51, 52, 53, 54, 55, 56, 57, 58, 59, 60, 61, 62, 63, 64, 65, 66, 8, 9], [9], [8]), ([49, 50, 51, 52, 53, 54, 55, 56, 57, 58, 59, 60, 61, 62, 63, 64, 65, 66, 8, 9], [8], [9])] (Exists.intro [49, 50, 51, 52, 53, 54, 55, 56, 57, 58, 59, 60, 61, 62, 63, 64, 65, 66, 8, 9] (And.intro (by decide +kernel) ?_)))))
  refine dp ?_
  refine dp ?_
  refine dp ?_
  refine dl ?_
  refine dp ?_
  refine da (ZpL ZDI ZBV) ?_
  refine dp ?_
  refine dr (ZbX (Zl.cells_eq ZBn) ZBV) ?_
  (refine st ?_; apply Exists.intro; apply Exists.intro; apply And.intro; (focus ((conv => whnf); refine Exists.intro [] ?_; (conv => whnf); refine And.intro rfl ?_; (conv => whnf); refine Zj.mono (Zj.weak (rn []) (ZhH s_6 ZBn.e0 _ ZES) rfl (WS.mk (tc (Zd (Zt (lc (lc (lc (lc Zo))))) Zb)) Zc)) ?_; rintro d b ⟨rfl, rfl⟩; exact And.intro rfl (And.intro rfl rfl))); apply And.intro; (focus exact rfl); (conv => whnf))
  refine dp ?_
  refine dp ?_
  refine dp ?_
  refine dl ?_
  refine dp ?_
  refine da (ZpL ZCi ZB7) ?_
  refine dp ?_
  refine dr (ZbX (Zl.cells_eq ZBA) ZB7) ?_
  (refine st ?_; apply Exists.intro; apply Exists.intro; apply And.intro; (focus ((conv => whnf); refine Exists.intro [] ?_; (conv => whnf); refine And.intro rfl ?_; (conv => whnf); refine Zj.mono (Zj.weak (rn []) (ZhH s_6 ZBA.e1 _ ZEM) rfl (WS.mk (tc (Zd (Zt (lc (lc (lc (lc Zo))))) Zb)) Zc)) ?_; rintro d b ⟨rfl, rfl⟩; exact And.intro rfl (And.intro rfl rfl))); apply And.intro; (focus exact rfl); (conv => whnf))
  refine dp ?_
  refine dp ?_
  refine st ?_
  refine AWP.seq ?_
  obtain ⟨Zje, ZCE, ZEm, ZyJ, ZBY, hF⟩ := Zu1 hF
  refine ns ?_
  intro hlen244
  (try rw [List.length_map] at hlen244)
  (try rw [List.length_map])
  refine s3 ZCE ZEm ZyJ ?_
  refine Exists.intro (Zje.map Zl.cells) (Exists.intro Zje.length (And.intro (ZB4 ZBY) (And.intro (Zzr ZyJ ZBY) ?_)))
  refine st ?_
  refine AWP.block ?_
  refine AWP.seq ?_
  refine AWP.cutN (fun T => ∃ r, WS r T ⟨[(4, .c none (.rs 6004 Zje.length)), (6, .c none (.sl (s_6.map Ze.cells))), (7, .c none (.v (.int .i64 e_7))), (8, .ptr 8 0), (9, .ptr 9 0), (72, .c none (.v (.bool (((Zhl.fOp == 1) && (Zhm.fOp == 1)) && (Zhl.fName.toList == Zhm.fName.toList)))))], [(8, [(none, .v (.int .i64 Zhl.fOp)), (none, .v (.string Zhl.fName)), (none, .sl (Zhl.fBound.fArgs.map Zk.cells)), (none, .sl (Zhl.fKids.map Za.cells))]), (9, [(none, .v (.int .i64 Zhm.fOp)), (none, .v (.string Zhm.fName)), (none, .sl (Zhm.fBound.fArgs.map Zk.cells)), (none, .sl (Zhm.fKids.map Za.cells))]), (6004, [(none, .ob 76 (Zje.map Zl.cells))])]⟩) ?_ (fun T hw => ?_)
  ·refine ns ?_
   refine Zm true (fun ZwT => ?_) (fun ZwT => ?_)
   ·(conv => whnf)
    refine st ?_
    refine Zm true (fun ZAK => ?_) (fun ZAK => ?_)
    ·(conv => whnf)
     refine st ?_
     exact wx (WS.mk (Zd (Zr (Zaf (by first | exact rfl | simp only [List.length_set]))) (tc (tc (tp (tp (Zd (Zr (web (And.intro ZwT ZAK))) Zb)))))) (Zf rfl (cc (cc (cc (cc Zh)))) (Zf rfl (cc (cc (cc (cc Zh)))) (Zf rfl (cc Zh) Zc))))
    ·(conv => whnf)
     refine st ?_
     exact wx (WS.mk (Zd (Zr (Zaf (by first | exact rfl | simp only [List.length_set]))) (tc (tc (tp (tp (Zd (Zr (web (And.intro ZwT ZAK))) Zb)))))) (Zf rfl (cc (cc (cc (cc Zh)))) (Zf rfl (cc (cc (cc (cc Zh)))) (Zf rfl (cc Zh) Zc))))
   ·(conv => whnf)
    refine st ?_
    exact wx (WS.mk (Zd (Zr (Zaf (by first | exact rfl | simp only [List.length_set]))) (tc (tc (tp (tp (Zd (Zr (web ZwT)) Zb)))))) (Zf rfl (cc (cc (cc (cc Zh)))) (Zf rfl (cc (cc (cc (cc Zh)))) (Zf rfl (cc Zh) Zc))))
  obtain ⟨r0, hw⟩ := hw
  (conv => whnf)
  refine AWP.weak r0 hw ?_
  refine nw ?_
  refine Zi hF (fun ZEH hF => ?_) (fun ZEH hF => ?_)
  ·refine nw ?_
   refine AWL.weak (rn []) ?_ (Zdu s_6 e_7 Zje _ hF)
   exact (WS.mk (Zd (Zr (Zaf (by first | exact rfl | simp only [List.length_set]))) (tc (tc Zb))) (Zf rfl (cc Zh) Zc))
  ·refine AWP.seq ?_
   refine ns ?_
   refine nw ?_
   refine Zi hF (fun ZE6 hF => ?_) (fun ZE6 hF => ?_)
   ·obtain ⟨ZAH, ZGG, hF⟩ := bind_some hF
    refine ns ?_
    refine e3 ?_
    refine st ?_
    refine cm (Zj.weak (rn []) (ZjO s_6 Zhl.fName Zhm _ ZGG) rfl (WS.mk (tc (tc (Zd (Zt (lc (lc (lc (lc Zo))))) Zb))) Zc)) ?_
    refine st ?_
    refine AWL.weak (rn []) ?_ (Zdu ZAH.1 ZAH.2 Zje _ hF)
    exact (WS.mk (Zd (Zr (Zaf (by first | exact rfl | simp only [List.length_set]))) (tc (tc Zb))) (Zf rfl (cc Zh) Zc))
   ·refine AWP.seq ?_
    refine ns ?_
    refine nw ?_
    refine Zi hF (fun ZF9 hF => ?_) (fun ZF9 hF => ?_)
    ·obtain ⟨ZAL, ZFK, hF⟩ := bind_some hF
     refine ns ?_
     refine e3 ?_
     refine st ?_
     refine cm (Zj.weak (rn []) (ZjO s_6 Zhm.fName Zhl _ ZFK) rfl (WS.mk (tc (tc (Zd (Zt (lc (lc (lc (lc Zo))))) Zb))) Zc)) ?_
     refine st ?_
     refine AWL.weak (rn []) ?_ (Zdu ZAL.1 ZAL.2 Zje _ hF)
     exact (WS.mk (Zd (Zr (Zaf (by first | exact rfl | simp only [List.length_set]))) (tc (tc Zb))) (Zf rfl (cc Zh) Zc))
    ·refine AWP.seq ?_
     refine AWP.cutN (fun T => ∃ r, WS r T ⟨[(4, .c none (.rs 6004 Zje.length)), (6, .c none (.sl (s_6.map Ze.cells))), (7, .c none (.v (.int .i64 e_7))), (8, .ptr 8 0), (9, .ptr 9 0), (112, .c none (.v (.bool (((Zhl.fOp == 2) && (Zhm.fOp == 2)) && (Zhl.fName.toList == Zhm.fName.toList)))))], [(8, [(none, .v (.int .i64 Zhl.fOp)), (none, .v (.string Zhl.fName)), (none, .sl (Zhl.fBound.fArgs.map Zk.cells)), (none, .sl (Zhl.fKids.map Za.cells))]), (9, [(none, .v (.int .i64 Zhm.fOp)), (none, .v (.string Zhm.fName)), (none, .sl (Zhm.fBound.fArgs.map Zk.cells)), (none, .sl (Zhm.fKids.map Za.cells))]), (6004, [(none, .ob 76 (Zje.map Zl.cells))])]⟩) ?_ (fun T hw => ?_)
     ·refine ns ?_
      refine Zm true (fun ZxH => ?_) (fun ZxH => ?_)
      ·(conv => whnf)
       refine st ?_
       refine Zm true (fun ZAc => ?_) (fun ZAc => ?_)
       ·(conv => whnf)
        refine st ?_
        exact wx (WS.mk (Zd (Zr (Zaf (by first | exact rfl | simp only [List.length_set]))) (tc (tc (tp (tp (Zd (Zr (web (And.intro ZxH ZAc))) Zb)))))) (Zf rfl (cc (cc (cc (cc Zh)))) (Zf rfl (cc (cc (cc (cc Zh)))) (Zf rfl (cc Zh) Zc))))
       ·(conv => whnf)
        refine st ?_
        exact wx (WS.mk (Zd (Zr (Zaf (by first | exact rfl | simp only [List.length_set]))) (tc (tc (tp (tp (Zd (Zr (web (And.intro ZxH ZAc))) Zb)))))) (Zf rfl (cc (cc (cc (cc Zh)))) (Zf rfl (cc (cc (cc (cc Zh)))) (Zf rfl (cc Zh) Zc))))
      ·(conv => whnf)
       refine st ?_
       exact wx (WS.mk (Zd (Zr (Zaf (by first | exact rfl | simp only [List.length_set]))) (tc (tc (tp (tp (Zd (Zr (web ZxH)) Zb)))))) (Zf rfl (cc (cc (cc (cc Zh)))) (Zf rfl (cc (cc (cc (cc Zh)))) (Zf rfl (cc Zh) Zc))))
     obtain ⟨r0, hw⟩ := hw
     (conv => whnf)
     refine AWP.weak r0 hw ?_
     refine nw ?_
     refine Zi hF (fun ZGz hF => ?_) (fun ZGz hF => ?_)
     ·refine nw ?_
      refine AWL.weak (rn []) ?_ (Zdu s_6 e_7 Zje _ hF)
      exact (WS.mk (Zd (Zr (Zaf (by first | exact rfl | simp only [List.length_set]))) (tc (tc Zb))) (Zf rfl (cc Zh) Zc))
     ·refine AWP.seq ?_
      refine AWP.cutN (fun T => ∃ r, WS r T ⟨[(4, .c none (.rs 6004 Zje.length)), (6, .c none (.sl (s_6.map Ze.cells))), (7, .c none (.v (.int .i64 e_7))), (8, .ptr 8 0), (9, .ptr 9 0), (128, .c none (.v (.bool ((Zhl.fOp == 3) && (Zhm.fOp == 3)))))], [(8, [(none, .v (.int .i64 Zhl.fOp)), (none, .v (.string Zhl.fName)), (none, .sl (Zhl.fBound.fArgs.map Zk.cells)), (none, .sl (Zhl.fKids.map Za.cells))]), (9, [(none, .v (.int .i64 Zhm.fOp)), (none, .v (.string Zhm.fName)), (none, .sl (Zhm.fBound.fArgs.map Zk.cells)), (none, .sl (Zhm.fKids.map Za.cells))]), (6004, [(none, .ob 76 (Zje.map Zl.cells))])]⟩) ?_ (fun T hw => ?_)
      ·refine ns ?_
       refine Zm true (fun Zzd => ?_) (fun Zzd => ?_)
       ·(conv => whnf)
        refine st ?_
        exact wx (WS.mk (Zd (Zr (Zaf (by first | exact rfl | simp only [List.length_set]))) (tc (tc (tp (tp (Zd (Zr (web Zzd)) Zb)))))) (Zf rfl (cc (cc (cc (cc Zh)))) (Zf rfl (cc (cc (cc (cc Zh)))) (Zf rfl (cc Zh) Zc))))
       ·(conv => whnf)
        refine st ?_
        exact wx (WS.mk (Zd (Zr (Zaf (by first | exact rfl | simp only [List.length_set]))) (tc (tc (tp (tp (Zd (Zr (web Zzd)) Zb)))))) (Zf rfl (cc (cc (cc (cc Zh)))) (Zf rfl (cc (cc (cc (cc Zh)))) (Zf rfl (cc Zh) Zc))))
      obtain ⟨r0, hw⟩ := hw
      (conv => whnf)
      refine AWP.weak r0 hw ?_
      refine nw ?_
      refine Zi hF (fun ZGL hF => ?_) (fun ZGL hF => ?_)
      ·obtain ⟨Zt1, hx2630, ZGb, hF⟩ := ZcL hF
       obtain ⟨ZtA, hx2640, ZEw, hF⟩ := ZcL hF
       obtain ⟨Zt5, hx2650, ZGB, hF⟩ := ZcL hF
       obtain ⟨Zt9, hx2660, ZFd, hF⟩ := ZcL hF
       obtain ⟨ZFn, hF⟩ := Zy hF
       refine nn ?_
       refine Or.inl (Exists.intro 20 (Exists.intro [[], [], [], [], [], [], [], [], [], [], [], [], [], [], [], [], [], [], [], []] (Exists.intro [([137, 138, 139, 140, 141, 142, 143, 144, 145, 146, 147, 148, 149, 150, 151, 152, 153, 154, 155, 156], [], []), ([137, 138, 139, 140, 141, 142, 143, 144, 145, 146, 147, 148, 149, 150, 151, 152, 153, 154, 155, 156], [], []), ([137, 139, 140, 141, 142, 143, 144, 145, 146, 147, 148, 149, 150, 151, 152, 153, 154, 155, 156], [], []), ([137, 140, 141, 142, 143, 144, 145, 146, 147, 148, 149, 150, 151, 152, 153, 154, 155, 156], [], []), ([137, 141, 142, 143, 144, 145, 146, 147, 148, 149, 150, 151, 152, 153, 154, 155, 156], [], []), ([137, 138, 139, 140, 141, 142, 143, 144, 145, 146, 147, 148, 149, 150, 151, 152, 153, 154, 155, 156], [], []), ([137, 138, 139, 140, 141, 143, 144, 145, 146, 147, 148, 149, 150, 151, 152, 153, 154, 155, 156], [], []), ([137, 138, 139, 140, 141, 144, 145, 146, 147, 148, 149, 150, 151, 152, 153, 154, 155, 156], [], []), ([137, 138, 139, 140, 141, 145, 146, 147, 148, 149, 150, 151, 152, 153, 154, 155, 156], [], []), ([137, 146, 147, 148, 149, 150, 151, 152, 153, 154, 155, 156], [], []), ([137, 138, 139, 140, 141, 142, 143, 144, 145, 146, 147, 148, 149, 150, 151, 152, 153, 154, 155, 156], [], []), ([137, 138, 139, 140, 141, 142, 143, 144, 145, 146, 148, 149, 150, 151, 152, 153, 154, 155, 156], [], []), ([137, 138, 139, 140, 141, 142, 143, 144, 145, 146, 149, 150, 151, 152, 153, 154, 155, 156], [], []), ([137, 138, 139, 140, 141, 142, 143, 144, 145, 146, 150, 151, 152, 153, 154, 155, 156], [], []), ([137, 138, 139, 140, 141, 142, 143, 144, 145, 146, 147, 148, 149, 150, 151, 152, 153, 154, 155, 156], [], []), ([137, 138, 139, 140, 141, 142, 143, 144, 145, 146, 147, 148, 149, 150, 152, 153, 154, 155, 156], [], []), ([137, 138, 139, 140, 141, 142, 143, 144, 145, 146, 147, 148, 149, 150, 153, 154, 155, 156], [], []), ([137, 138, 139, 140, 141, 142, 143, 144, 145, 146, 147, 148, 149, 150, 154, 155, 156], [], []), ([137, 138, 139, 140, 141, 142, 143, 144, 145, 146, 155, 156], [], []), ([137, 156], [], [])] (Exists.intro [137, 138, 139, 140, 141, 142, 143, 144, 145, 146, 147, 148, 149, 150, 151, 152, 153, 154, 155, 156] (And.intro (by decide +kernel) ?_)))))
       refine dp ?_
       refine dp ?_
       refine dp ?_
       refine dr (ZbX (Za.cells_eq Zt1) ZGb) ?_
       refine dp ?_
       refine dp ?_
       refine dp ?_
       refine dr (ZbX (Za.cells_eq ZtA) ZEw) ?_
       refine dp ?_
       refine dp ?_
       refine dp ?_
       refine dp ?_
       refine dr (ZbX (Za.cells_eq Zt5) ZGB) ?_
       refine dp ?_
       refine dp ?_
       refine dp ?_
       refine dr (ZbX (Za.cells_eq Zt9) ZFd) ?_
       refine dp ?_
       refine dp ?_
       refine de (Zbs (f := Zl.cells) (ZdA (Zl.cells_eq (Zl.mk Zt1 ZtA)) (lc (lc (lc (lc (lc (lc (lc (lc Zo))))))))) (Zbs (f := Zl.cells) (ZdA (Zl.cells_eq (Zl.mk Zt5 Zt9)) (lc (lc (lc (lc (lc (lc (lc (lc Zo))))))))) (ZY (f := Zl.cells)))) ?_
       refine sa (fun l => ZbO l (fun x => Zl.cells_len x)) ZFn ?_
       refine Exists.intro (([(Zl.mk Zt1 ZtA), (Zl.mk Zt5 Zt9)]).map Zl.cells) (Exists.intro ((Zje ++ ([(Zl.mk Zt1 ZtA), (Zl.mk Zt5 Zt9)])).map Zl.cells) (Exists.intro (Zje ++ ([(Zl.mk Zt1 ZtA), (Zl.mk Zt5 Zt9)])).length (And.intro (WE.refl _) (And.intro (ZrD (by first | exact rfl | simp only [List.length_set])) (And.intro (Zq6 (by first | exact rfl | simp only [List.length_set]) (by first | exact List.length_map _ | exact rfl)) ?_)))))
       refine st ?_
       refine AWL.weak (rn []) ?_ (Zdu s_6 e_7 (Zje ++ ([(Zl.mk Zt1 ZtA), (Zl.mk Zt5 Zt9)])) _ hF)
       exact (WS.mk (Zd (Zr (Zaf (by first | exact rfl | simp only [List.length_set]))) (tc (tc Zb))) (Zf rfl (cc Zh) Zc))
      ·refine ns ?_
       refine AWL.weak (rn []) ?_ (Zdu s_6 22 Zje _ hF)
       exact (WS.mk (Zd (Zr (Zaf (by first | exact rfl | simp only [List.length_set]))) (tc (tc Zb))) (Zf rfl (cc Zh) Zc))
 ·refine nw ?_
  refine AWP.seq ?_
  refine AWP.seq ?_
  refine ns ?_
  refine nw ?_
  refine Zi hF (fun ZGp hF => ?_) (fun ZGp hF => ?_)
  ·refine AWP.seq ?_
   refine ns ?_
   obtain rfl := Zg hF
   refine ns ?_
   refine Exists.intro [] ?_
   refine st ?_
   exact wx (WS.mk (Zd (Zc9 (ZcG WE.nil (ZcG (WE.refl _) Zda))) Zb) Zc)
  ·refine nw ?_
   refine AWP.seq ?_
   refine ns ?_
   obtain rfl := Zg hF
   refine ns ?_
   refine Exists.intro [] ?_
   refine st ?_
   exact wx (WS.mk (Zd (Zc9 (ZcG (WE.refl _) (ZcG (WE.refl _) Zda))) Zb) Zc)

def ZbR (pairs : (List Zl)) (i_5 : Int) (ZG : (List Zl)) : Option ((List Ze) × Int) :=
 if (decide (i_5 ≥ 0)) = true then
 (ixI pairs i_5) >>= fun x91 =>
 Zce x91.e0 >>= fun r92 =>
 (if (!r92) = true then some true else (ixI pairs i_5) >>= fun x93 =>
 Zce x93.e1 >>= fun r94 =>
 some (!r94)) >>= fun c95 =>
 if c95 = true then
 some (([] : List Ze), 1)
 else
 (ixI pairs i_5) >>= fun x98 =>
 Z4 ((ZG.length + ([x98]).length) * 144 ≤ 140737488355328) >>= fun _ =>
 ZbR pairs (IntKind.i64.wrap (i_5 - 1)) (ZG ++ ([x98]))
 else
 Zs ([] : List Ze) 0 ZG
 partial_fixpoint
def ZbR.M (pairs : (List Zl)) (i_5 : Int) (ZG : (List Zl)) (r : (List Ze) × Int) : Prop :=
 pairs.length ≤ maxLen → AWL Tryz.prog 162 (Code.sub (Zq Tryz.f16) [1, 1, 0, 1, 0, 0]) (Code.cont Tryz.prog 162 (Zq Tryz.f16) [1, 1, 0, 1, 0] (ZbW tab Tryz.f16.results (ZbY (.tup [.c (.sl (r.1.map Ze.cells)), .c (.v (.int .i64 r.2))]) []))) ⟨[(0, .c none (.sl (pairs.map Zl.cells))), (4, .c none (.rs 6004 ZG.length)), (5, .c none (.v (.int .i64 i_5)))], [(6004, [(none, .ob 76 (ZG.map Zl.cells))])]⟩
theorem ZmY (pairs : (List Zl)) (i_5 : Int) (ZG : (List Zl)) : ∀ r, ZbR pairs i_5 ZG = some r → ZbR.M pairs i_5 ZG r := by
 refine ZbR.partial_correctness pairs (fun i_5 ZG r => ZbR.M pairs i_5 ZG r) ?_ i_5 ZG
 intro lazycref18_All_l1' Zh1 i_5 ZG r hF
 have ZmM := fun (_pairs : (List Zl)) (i_5 : Int) (ZG : (List Zl)) => Zh1 i_5 ZG
 clear Zh1
 unfold ZbR.M
 intro hlen50
 refine AWL.step ?_
 refine AWP.seq ?_
 refine AWP.seq ?_
 refine ns ?_
 refine nw ?_
 refine Zi hF (fun ZpD hF => ?_) (fun ZpD hF => ?_)
 ·refine nw ?_
  refine AWP.seq ?_
  refine AWP.block ?_
  refine AWP.seq ?_
  refine AWP.seq ?_
  obtain ⟨x91, ZE1, ZDb, hF⟩ := ZcL hF
  obtain ⟨r92, Zwb, hF⟩ := bind_some hF
  obtain ⟨c95, Zks, hF⟩ := bind_some hF
  refine AWP.cutN (fun T => ∃ r, WS r T ⟨[(0, .c none (.sl (pairs.map Zl.cells))), (4, .c none (.rs 6004 ZG.length)), (5, .c none (.v (.int .i64 i_5))), (33, .c none (.v (.bool c95)))], [(6004, [(none, .ob 76 (ZG.map Zl.cells))])]⟩) ?_ (fun T hw => ?_)
  ·refine nn ?_
   refine sr (ZbX (f := Zl.cells) (Zl.cells_eq x91) ZDb) ?_
   refine st ?_
   refine e3 ?_
   refine st ?_
   refine cm (Zj.weak (rn []) (ZiD x91.e0 _ Zwb) rfl (WS.mk (Zd (Zt (lc (lc (lc (lc Zo))))) Zb) Zc)) ?_
   refine st ?_
   refine Zm false (fun Zpt => ?_) (fun Zpt => ?_)
   ·have Zks := ift Zpt Zks
    (conv => whnf)
    obtain rfl := Zg Zks
    refine st ?_
    exact wx (WS.mk (tc (Zd (Zr (Zaf (by first | exact rfl | simp only [List.length_set]))) (tc (Zd (Zr (web Zpt)) Zb)))) (Zf rfl (cc Zh) Zc))
   ·have Zks := ife Zpt Zks
    obtain ⟨x93, ZGH, ZCR, Zks⟩ := ZcL Zks
    obtain ⟨r94, ZEf, Zks⟩ := bind_some Zks
    (conv => whnf)
    refine sr (ZbX (f := Zl.cells) (Zl.cells_eq x93) ZCR) ?_
    refine st ?_
    refine e3 ?_
    refine st ?_
    refine cm (Zj.weak (rn []) (ZiD x93.e1 _ ZEf) rfl (WS.mk (Zd (Zt (lc (lc (lc (lc Zo))))) Zb) Zc)) ?_
    refine st ?_
    obtain rfl := Zg Zks
    refine st ?_
    exact wx (WS.mk (tc (Zd (Zr (Zaf (by first | exact rfl | simp only [List.length_set]))) (tc (Zd (Zr (web Zpt)) Zb)))) (Zf rfl (cc Zh) Zc))
  obtain ⟨r0, hw⟩ := hw
  (conv => whnf)
  refine AWP.weak r0 hw ?_
  refine nw ?_
  refine Zi hF (fun ZD9 hF => ?_) (fun ZD9 hF => ?_)
  ·refine AWP.seq ?_
   refine ns ?_
   obtain rfl := Zg hF
   refine ns ?_
   refine Exists.intro [] ?_
   refine st ?_
   exact wx (WS.mk (Zd (Zc9 (ZcG WE.nil (ZcG (WE.refl _) Zda))) Zb) Zc)
  ·refine nw ?_
   obtain ⟨x98, ZFP, ZD1, hF⟩ := ZcL hF
   obtain ⟨ZCr, hF⟩ := Zy hF
   refine nn ?_
   refine sr (ZbX (f := Zl.cells) (Zl.cells_eq x98) ZD1) ?_
   refine st ?_
   refine Exists.intro _ (And.intro (Zbs (f := Zl.cells) (ZdA (Zl.cells_eq x98) (lc (lc (lc (lc (lc (lc (lc (lc Zo))))))))) (ZY (f := Zl.cells))) ?_)
   refine sa (fun l => ZbO l (fun x => Zl.cells_len x)) ZCr ?_
   refine Exists.intro (([x98]).map Zl.cells) (Exists.intro ((ZG ++ ([x98])).map Zl.cells) (Exists.intro (ZG ++ ([x98])).length (And.intro (WE.refl _) (And.intro (ZrD (by first | exact rfl | simp only [List.length_set])) (And.intro (Zq6 (by first | exact rfl | simp only [List.length_set]) (by first | exact List.length_map _ | exact rfl)) ?_)))))
   refine st ?_
   refine ns ?_
   refine AWL.weak (rn []) ?_ (ZmM pairs (IntKind.i64.wrap (i_5 - 1)) (ZG ++ ([x98])) _ hF hlen50)
   exact (WS.mk (tc (Zd (Zr (Zaf (by first | exact rfl | simp only [List.length_set]))) (tc Zb))) (Zf rfl (cc Zh) Zc))
 ·refine nw ?_
  refine AWP.seq ?_
  refine ns ?_
  refine Exists.intro _ (And.intro (ZY (f := Ze.cells)) ?_)
  refine st ?_
  refine AWP.seq ?_
  refine ns ?_
  refine AWP.seq ?_
  refine AWP.block ?_
  refine AWP.loop ?_
  refine AWL.weak (rn []) ?_ (ZmC ([] : List Ze) 0 ZG _ hF)
  exact (WS.mk (Zd (Zr (Zaf (by first | exact rfl | simp only [List.length_set]))) (tc (tc Zb))) (Zf rfl (cc Zh) Zc))

def ZcN (pairs : (List Zl)) : Option ((List Ze) × Int) :=
 ZbR pairs (IntKind.i64.wrap (((pairs.length : Nat) : Int) - 1)) ([] : List Zl)
def ZcN.M (pairs : (List Zl)) (r : (List Ze) × Int) : Prop :=
 Zj Tryz.prog 16 [.c none (.sl (pairs.map Zl.cells))] [] (fun d b => d = .tup [.c (.sl (r.1.map Ze.cells)), .c (.v (.int .i64 r.2))] ∧ b = [])
theorem Zkb (pairs : (List Zl)) (r : (List Ze) × Int) (hF : ZcN pairs = some r) : ZcN.M pairs r := by
 unfold ZcN at hF
 unfold ZcN.M
 refine en Tryz.func16 ?_
 refine AWP.seq ?_
 refine ns ?_
 refine AWP.seq ?_
 refine ns ?_
 refine Exists.intro _ (And.intro (ZY (f := Zl.cells)) ?_)
 refine st ?_
 refine AWP.thaw 4 6004 38 rfl ?_
 refine AWP.force ?_
 (conv => whnf)
 refine AWP.seq ?_
 refine AWP.seq ?_
 refine ns ?_
 intro hlen50
 (try rw [List.length_map] at hlen50)
 (try rw [List.length_map])
 refine st ?_
 refine AWP.block ?_
 refine AWP.loop ?_
 refine AWL.weak (rn []) ?_ (ZmY pairs (IntKind.i64.wrap (((pairs.length : Nat) : Int) - 1)) ([] : List Zl) _ hF hlen50)
 exact (WS.mk (tc (Zd (Zr (Zaf (by first | exact rfl | simp only [List.length_set]))) (tc Zb))) (Zf rfl (cc Zh) Zc))

def ZcM (ZjN : (List Ze)) (l : (List Ze)) (x_8 : Nat) (Zbz : (List Ze)) : Option ((List Ze)) :=
 (match Zbz with
 | x13 :: Zrs =>
 Zcn x13.fType >>= fun r16 =>
 Z4 ((ZjN.length + ([(Ze.mk x13.fName r16)]).length) * 88 ≤ 140737488355328) >>= fun _ =>
 ZcM (ZjN ++ ([(Ze.mk x13.fName r16)])) l (x_8 + 1) Zrs
 | [] =>
 some ZjN)
 partial_fixpoint
def ZcM.M (ZjN : (List Ze)) (l : (List Ze)) (x_8 : Nat) (Zbz : (List Ze)) (r : (List Ze)) : Prop :=
 ∀ Zej : List Ze, l = Zej ++ Zbz → x_8 = Zej.length → l.length ≤ maxLen → AWL Tryz.prog 23 (Code.sub (Zq Tryz.f33) [1, 1, 0, 1, 0, 0]) (Code.cont Tryz.prog 23 (Zq Tryz.f33) [1, 1, 0, 1, 0] (ZbW tab Tryz.f33.results (ZbY (.c (some (0, 45)) (.sl (r.map Ze.cells))) [(1000, [(none, .ob 90 (l.map Ze.cells))])]))) ⟨[(3, .c (some (3, 45)) (.sl (ZjN.map Ze.cells))), (6, .c none (.rs 1000 l.length)), (7, .c none (.v (.int .i64 ((l.length : Nat) : Int)))), (8, .c none (.v (.int .i64 ((x_8 : Nat) : Int))))], [(1000, [(none, .ob 90 (l.map Ze.cells))])]⟩
theorem Zo5 (ZjN : (List Ze)) (l : (List Ze)) (x_8 : Nat) (Zbz : (List Ze)) : ∀ r, ZcM ZjN l x_8 Zbz = some r → ZcM.M ZjN l x_8 Zbz r := by
 refine ZcM.partial_correctness l (fun ZjN x_8 Zbz r => ZcM.M ZjN l x_8 Zbz r) ?_ ZjN x_8 Zbz
 intro unify_fresh_l1' ZjW ZjN x_8 Zbz r hF
 have ZoN := fun (ZjN : (List Ze)) (_l : (List Ze)) (x_8 : Nat) (Zbz : (List Ze)) => ZjW ZjN x_8 Zbz
 clear ZjW
 unfold ZcM.M
 intro Zej ZjM ZjU hlen1
 refine AWL.step ?_
 refine AWP.seq ?_
 refine ns ?_
 refine AWP.seq ?_
 refine nw ?_
 refine ZN ZjM ZjU (fun x13 Zrs Zrn Zye Zz5 => ?_) (fun Zrn => ?_)
 ·subst Zrn
  refine nw ?_
  refine AWP.seq ?_
  refine AWP.block ?_
  refine AWP.seq ?_
  refine ns ?_
  refine And.intro (ZtU Zye) ?_
  refine st ?_
  refine sr (Zab (f := Ze.cells) (Ze.cells_eq x13) Zye) ?_
  refine st ?_
  obtain ⟨r16, Zwk, hF⟩ := bind_some hF
  obtain ⟨ZCu, hF⟩ := Zy hF
  refine nn ?_
  refine Or.inl (Exists.intro 8 (Exists.intro [[], [], [], [], [], [], [], []] (Exists.intro [([12, 13, 14, 15, 16, 17, 18, 19], [], []), ([12, 13, 14, 15, 16, 17, 18, 19], [], []), ([12, 14, 15, 16, 17, 18, 19], [], []), ([12, 13, 14, 15, 16, 17, 18, 19], [], []), ([12, 13, 14, 16, 17, 18, 19], [], []), ([12, 13, 14, 17, 18, 19], [], []), ([12, 18, 19], [], []), ([12, 19], [], [])] (Exists.intro [12, 13, 14, 15, 16, 17, 18, 19] (And.intro (by decide +kernel) ?_)))))
  refine dp ?_
  refine dp ?_
  refine dp ?_
  refine dp ?_
  refine dp ?_
  (refine st ?_; apply Exists.intro; apply Exists.intro; apply And.intro; (focus ((conv => whnf); refine Exists.intro [] ?_; (conv => whnf); refine And.intro rfl ?_; (conv => whnf); refine Zj.mono (Zj.weak (rn []) (Zqm x13.fType _ Zwk) rfl (WS.mk (Zd (Zt (lc (lc (lc (lc Zo))))) Zb) Zc)) ?_; rintro d b ⟨rfl, rfl⟩; exact And.intro rfl (And.intro rfl rfl))); apply And.intro; (focus exact rfl); (conv => whnf))
  refine dp ?_
  refine de (Zbs (f := Ze.cells) (ZdA (Ze.cells_eq (Ze.mk x13.fName r16)) (lc (lc (lc (lc (lc Zo)))))) (ZY (f := Ze.cells))) ?_
  refine sa (fun l => ZbO l (fun x => Ze.cells_len x)) ZCu ?_
  refine Exists.intro _ (And.intro (WE.refl _) ?_)
  rw [← List.map_append]
  refine st ?_
  refine ns ?_
  refine AWL.weak (rn [(20, 3)]) ?_ (ZoN (ZjN ++ ([(Ze.mk x13.fName r16)])) l (x_8 + 1) Zrs _ hF (Zej ++ [x13]) (by rw [ZjM]; simp) (by rw [ZjU]; simp) hlen1)
  exact (WS.mk (Zd (Zal rfl (WE.refl _)) (Zd (Zr (Zaf (by first | exact rfl | simp only [List.length_set]))) (tc (Zd (Zr (Zdf (ZV hlen1 Zz5))) Zb)))) (Zf rfl (cc Zh) Zc))
 ·subst Zrn
  refine nw ?_
  refine AWP.seq ?_
  refine ns ?_
  obtain rfl := Zg hF
  refine ns ?_
  refine Exists.intro [(1000, 1000)] ?_
  refine st ?_
  exact Exists.intro (rn [(3, 0)]) (WS.mk (Zd (Zal rfl (WE.refl _)) Zb) (Zf rfl (cc Zh) Zc))

def Zcy (l : (List Ze)) : Option ((List Ze)) :=
 ZcM ([]) l 0 l
def Zcy.M (l : (List Ze)) (r : (List Ze)) : Prop :=
 Zj Tryz.prog 33 [.c none (.rs 1000 l.length)] [(1000, [(none, .ob 90 (l.map Ze.cells))])] (fun d b => d = .c (some (0, 45)) (.sl (r.map Ze.cells)) ∧ b = [(1000, [(none, .ob 90 (l.map Ze.cells))])])
theorem ZqI (l : (List Ze)) (r : (List Ze)) (hF : Zcy l = some r) : Zcy.M l r := by
 unfold Zcy at hF
 unfold Zcy.M
 refine en Tryz.func33 ?_
 refine AWP.seq ?_
 refine ns ?_
 refine AWP.seq ?_
 refine ns ?_
 refine AWP.seq ?_
 refine AWP.seq ?_
 refine ns ?_
 intro hlen1
 (try rw [List.length_map] at hlen1)
 (try rw [List.length_map])
 refine st ?_
 refine AWP.block ?_
 refine AWP.loop ?_
 refine AWL.weak (rn []) ?_ (Zo5 ([]) l 0 l _ hF ([]) rfl rfl hlen1)
 exact (WS.mk (Zd ZjT (Zd (Zr (Zaf (by first | exact rfl | simp only [List.length_set]))) (tc (tc Zb)))) (Zf rfl (cc Zh) Zc))

def ZdE (pairs : (List Zl)) (i_5 : Int) (Zbo : (List Zl)) : Option ((List Ze) × Int) :=
 if (decide (i_5 ≥ 0)) = true then
 (ixI pairs i_5) >>= fun x91 =>
 ZdV x91.e0 >>= fun r92 =>
 (if (!r92) = true then some true else (ixI pairs i_5) >>= fun x93 =>
 ZdV x93.e1 >>= fun r94 =>
 some (!r94)) >>= fun c95 =>
 if c95 = true then
 some (([] : List Ze), 1)
 else
 (ixI pairs i_5) >>= fun x98 =>
 Z4 ((Zbo.length + ([x98]).length) * 144 ≤ 140737488355328) >>= fun _ =>
 ZdE pairs (IntKind.i64.wrap (i_5 - 1)) (Zbo ++ ([x98]))
 else
 ZcS (Zu.mk ([] : List Ze) ([] : List (ByteArray × Int))) Zbo >>= fun ZpG =>
 Zcy ZpG.2.1.flist >>= fun Zvl =>
 some (Zvl, ZpG.1)
 partial_fixpoint
def ZdE.M (pairs : (List Zl)) (i_5 : Int) (Zbo : (List Zl)) (r : (List Ze) × Int) : Prop :=
 pairs.length ≤ maxLen → AWL Tryz.prog 50 (Code.sub (Zq Tryz.f15) [1, 1, 0, 1, 0, 0]) (Code.cont Tryz.prog 50 (Zq Tryz.f15) [1, 1, 0, 1, 0] (ZbW tab Tryz.f15.results (ZbY (.tup [.c (.sl (r.1.map Ze.cells)), .c (.v (.int .i64 r.2))]) []))) ⟨[(0, .c none (.sl (pairs.map Zl.cells))), (4, .c none (.rs 6004 Zbo.length)), (5, .c none (.v (.int .i64 i_5)))], [(6004, [(none, .ob 76 (Zbo.map Zl.cells))])]⟩
theorem Zql (pairs : (List Zl)) (i_5 : Int) (Zbo : (List Zl)) : ∀ r, ZdE pairs i_5 Zbo = some r → ZdE.M pairs i_5 Zbo r := by
 refine ZdE.partial_correctness pairs (fun i_5 Zbo r => ZdE.M pairs i_5 Zbo r) ?_ i_5 Zbo
 intro unify_All_l1' Zk7 i_5 Zbo r hF
 have Zqf := fun (_pairs : (List Zl)) (i_5 : Int) (Zbo : (List Zl)) => Zk7 i_5 Zbo
 clear Zk7
 unfold ZdE.M
 intro hlen50
 refine AWL.step ?_
 refine AWP.seq ?_
 refine AWP.seq ?_
 refine ns ?_
 refine nw ?_
 refine Zi hF (fun ZpD hF => ?_) (fun ZpD hF => ?_)
 ·refine nw ?_
  refine AWP.seq ?_
  refine AWP.block ?_
  refine AWP.seq ?_
  refine AWP.seq ?_
  obtain ⟨x91, ZE1, ZDb, hF⟩ := ZcL hF
  obtain ⟨r92, Zwb, hF⟩ := bind_some hF
  obtain ⟨c95, Zks, hF⟩ := bind_some hF
  refine AWP.cutN (fun T => ∃ r, WS r T ⟨[(0, .c none (.sl (pairs.map Zl.cells))), (4, .c none (.rs 6004 Zbo.length)), (5, .c none (.v (.int .i64 i_5))), (30, .c none (.v (.bool c95)))], [(6004, [(none, .ob 76 (Zbo.map Zl.cells))])]⟩) ?_ (fun T hw => ?_)
  ·refine nn ?_
   refine sr (ZbX (f := Zl.cells) (Zl.cells_eq x91) ZDb) ?_
   refine st ?_
   refine e3 ?_
   refine st ?_
   refine cm (Zj.weak (rn []) (Zl2 x91.e0 _ Zwb) rfl (WS.mk (Zd (Zt (lc (lc (lc (lc Zo))))) Zb) Zc)) ?_
   refine st ?_
   refine Zm false (fun Zpt => ?_) (fun Zpt => ?_)
   ·have Zks := ift Zpt Zks
    (conv => whnf)
    obtain rfl := Zg Zks
    refine st ?_
    exact wx (WS.mk (tc (Zd (Zr (Zaf (by first | exact rfl | simp only [List.length_set]))) (tc (Zd (Zr (web Zpt)) Zb)))) (Zf rfl (cc Zh) Zc))
   ·have Zks := ife Zpt Zks
    obtain ⟨x93, ZGH, ZCR, Zks⟩ := ZcL Zks
    obtain ⟨r94, ZEf, Zks⟩ := bind_some Zks
    (conv => whnf)
    refine sr (ZbX (f := Zl.cells) (Zl.cells_eq x93) ZCR) ?_
    refine st ?_
    refine e3 ?_
    refine st ?_
    refine cm (Zj.weak (rn []) (Zl2 x93.e1 _ ZEf) rfl (WS.mk (Zd (Zt (lc (lc (lc (lc Zo))))) Zb) Zc)) ?_
    refine st ?_
    obtain rfl := Zg Zks
    refine st ?_
    exact wx (WS.mk (tc (Zd (Zr (Zaf (by first | exact rfl | simp only [List.length_set]))) (tc (Zd (Zr (web Zpt)) Zb)))) (Zf rfl (cc Zh) Zc))
  obtain ⟨r0, hw⟩ := hw
  (conv => whnf)
  refine AWP.weak r0 hw ?_
  refine nw ?_
  refine Zi hF (fun ZD9 hF => ?_) (fun ZD9 hF => ?_)
  ·refine AWP.seq ?_
   refine ns ?_
   obtain rfl := Zg hF
   refine ns ?_
   refine Exists.intro [] ?_
   refine st ?_
   exact wx (WS.mk (Zd (Zc9 (ZcG WE.nil (ZcG (WE.refl _) Zda))) Zb) Zc)
  ·refine nw ?_
   obtain ⟨x98, ZFP, ZD1, hF⟩ := ZcL hF
   obtain ⟨ZCr, hF⟩ := Zy hF
   refine nn ?_
   refine sr (ZbX (f := Zl.cells) (Zl.cells_eq x98) ZD1) ?_
   refine st ?_
   refine Exists.intro _ (And.intro (Zbs (f := Zl.cells) (ZdA (Zl.cells_eq x98) (lc (lc (lc (lc (lc (lc (lc (lc Zo))))))))) (ZY (f := Zl.cells))) ?_)
   refine sa (fun l => ZbO l (fun x => Zl.cells_len x)) ZCr ?_
   refine Exists.intro (([x98]).map Zl.cells) (Exists.intro ((Zbo ++ ([x98])).map Zl.cells) (Exists.intro (Zbo ++ ([x98])).length (And.intro (WE.refl _) (And.intro (ZrD (by first | exact rfl | simp only [List.length_set])) (And.intro (Zq6 (by first | exact rfl | simp only [List.length_set]) (by first | exact List.length_map _ | exact rfl)) ?_)))))
   refine st ?_
   refine ns ?_
   refine AWL.weak (rn []) ?_ (Zqf pairs (IntKind.i64.wrap (i_5 - 1)) (Zbo ++ ([x98])) _ hF hlen50)
   exact (WS.mk (tc (Zd (Zr (Zaf (by first | exact rfl | simp only [List.length_set]))) (tc Zb))) (Zf rfl (cc Zh) Zc))
 ·refine nw ?_
  refine AWP.seq ?_
  refine ns ?_
  refine AWP.thawB 40 0 6540 45 rfl rfl ?_
  refine AWP.force ?_
  (conv => whnf)
  refine AWP.seq ?_
  obtain ⟨ZpG, ZE8, hF⟩ := bind_some hF
  refine ns ?_
  refine Exists.intro [] (Exists.intro [(40, 1000), (6540, 7001), (38, 1002), (6004, 7003)] (Exists.intro [] ?_))
  refine st ?_
  refine cm (Zj.weak (rn []) (Zmk (Zu.mk ([] : List Ze) ([] : List (ByteArray × Int))) Zbo _ ZE8) rfl (WS.mk (tp (Zd (Zr (Zaf (by first | exact rfl | simp only [List.length_set]))) Zb)) (Zf rfl (Ze3 (Zaf (by first | exact rfl | simp only [List.length_set])) (cc Zh)) (Zf rfl (cc Zh) (Zf rfl (cc Zh) (Zf rfl (cc Zh) Zc)))))) ?_
  refine st ?_
  refine AWP.seq ?_
  obtain ⟨Zvl, ZE7, hF⟩ := bind_some hF
  refine ns ?_
  refine Exists.intro [] (Exists.intro [(6540, 1000)] (Exists.intro [] ?_))
  refine st ?_
  refine cm (Zj.weak (rn []) (ZqI ZpG.2.1.flist _ ZE7) rfl (WS.mk (Zd (Zr (Zaf (by first | exact rfl | simp only [List.length_set]))) Zb) (Zf rfl (cc Zh) Zc))) ?_
  refine st ?_
  obtain rfl := Zg hF
  refine ns ?_
  refine Exists.intro [] ?_
  refine st ?_
  exact wx (WS.mk (Zd (Zc9 (ZcG (WE.refl _) (ZcG (WE.refl _) Zda))) Zb) Zc)

def Zfc (pairs : (List Zl)) : Option ((List Ze) × Int) :=
 ZdE pairs (IntKind.i64.wrap (((pairs.length : Nat) : Int) - 1)) ([] : List Zl)
def Zfc.M (pairs : (List Zl)) (r : (List Ze) × Int) : Prop :=
 Zj Tryz.prog 15 [.c none (.sl (pairs.map Zl.cells))] [] (fun d b => d = .tup [.c (.sl (r.1.map Ze.cells)), .c (.v (.int .i64 r.2))] ∧ b = [])
theorem ZoD (pairs : (List Zl)) (r : (List Ze) × Int) (hF : Zfc pairs = some r) : Zfc.M pairs r := by
 unfold Zfc at hF
 unfold Zfc.M
 refine en Tryz.func15 ?_
 refine AWP.seq ?_
 refine ns ?_
 refine AWP.seq ?_
 refine ns ?_
 refine AWP.thaw 4 6004 38 rfl ?_
 refine AWP.force ?_
 (conv => whnf)
 refine AWP.seq ?_
 refine AWP.seq ?_
 refine ns ?_
 intro hlen50
 (try rw [List.length_map] at hlen50)
 (try rw [List.length_map])
 refine st ?_
 refine AWP.block ?_
 refine AWP.loop ?_
 refine AWL.weak (rn []) ?_ (Zql pairs (IntKind.i64.wrap (((pairs.length : Nat) : Int) - 1)) ([] : List Zl) _ hF hlen50)
 exact (WS.mk (tc (Zd (Zr (Zaf (by first | exact rfl | simp only [List.length_set]))) (tc Zb))) (Zf rfl (cc Zh) Zc))

def ZbI (a : Za) (b : Za) : Option ((List Ze) × Int) :=
 Zfc ([(Zl.mk a b)]) >>= fun r1 =>
 some (r1.1, r1.2)
def ZbI.M (a : Za) (b : Za) (r : (List Ze) × Int) : Prop :=
 Zj Tryz.prog 12 [.agg [.v (.int .i64 a.fOp), .v (.string a.fName), .sl (a.fBound.fArgs.map Zk.cells), .sl (a.fKids.map Za.cells)], .agg [.v (.int .i64 b.fOp), .v (.string b.fName), .sl (b.fBound.fArgs.map Zk.cells), .sl (b.fKids.map Za.cells)]] [] (fun d b => d = .tup [.c (.sl (r.1.map Ze.cells)), .c (.v (.int .i64 r.2))] ∧ b = [])
theorem Zf9 (a : Za) (b : Za) (r : (List Ze) × Int) (hF : ZbI a b = some r) : ZbI.M a b r := by
 unfold ZbI at hF
 unfold ZbI.M
 refine en Tryz.func12 ?_
 refine AWP.seq ?_
 refine ns ?_
 refine AWP.seq ?_
 obtain ⟨r1, hr1, hF⟩ := bind_some hF
 refine ns ?_
 refine Exists.intro _ (And.intro (Zbs (f := Zl.cells) (ZdA (Zl.cells_eq (Zl.mk a b)) (lc (lc (lc (lc (lc (lc (lc (lc Zo))))))))) (ZY (f := Zl.cells))) ?_)
 refine st ?_
 refine Exists.intro [9] (Exists.intro [] (Exists.intro [] ?_))
 refine st ?_
 refine cm (Zj.weak (rn []) (ZoD ([(Zl.mk a b)]) _ hr1) rfl (WS.mk (tc Zb) Zc)) ?_
 refine st ?_
 obtain rfl := Zg hF
 refine ns ?_
 refine Exists.intro [] ?_
 refine st ?_
 exact wx (WS.mk (Zd (Zc9 (ZcG (WE.refl _) (ZcG (WE.refl _) Zda))) Zb) Zc)

def ZdR (a : Za) (b : Za) : Option ((List Ze) × Int) :=
 ZcN ([(Zl.mk a b)]) >>= fun r1 =>
 some (r1.1, r1.2)
def ZdR.M (a : Za) (b : Za) (r : (List Ze) × Int) : Prop :=
 Zj Tryz.prog 13 [.agg [.v (.int .i64 a.fOp), .v (.string a.fName), .sl (a.fBound.fArgs.map Zk.cells), .sl (a.fKids.map Za.cells)], .agg [.v (.int .i64 b.fOp), .v (.string b.fName), .sl (b.fBound.fArgs.map Zk.cells), .sl (b.fKids.map Za.cells)]] [] (fun d b => d = .tup [.c (.sl (r.1.map Ze.cells)), .c (.v (.int .i64 r.2))] ∧ b = [])
theorem ZnP (a : Za) (b : Za) (r : (List Ze) × Int) (hF : ZdR a b = some r) : ZdR.M a b r := by
 unfold ZdR at hF
 unfold ZdR.M
 refine en Tryz.func13 ?_
 refine AWP.seq ?_
 refine ns ?_
 refine AWP.seq ?_
 obtain ⟨r1, hr1, hF⟩ := bind_some hF
 refine ns ?_
 refine Exists.intro _ (And.intro (Zbs (f := Zl.cells) (ZdA (Zl.cells_eq (Zl.mk a b)) (lc (lc (lc (lc (lc (lc (lc (lc Zo))))))))) (ZY (f := Zl.cells))) ?_)
 refine st ?_
 refine Exists.intro [9] (Exists.intro [] (Exists.intro [] ?_))
 refine st ?_
 refine cm (Zj.weak (rn []) (Zkb ([(Zl.mk a b)]) _ hr1) rfl (WS.mk (tc Zb) Zc)) ?_
 refine st ?_
 obtain rfl := Zg hF
 refine ns ?_
 refine Exists.intro [] ?_
 refine st ?_
 exact wx (WS.mk (Zd (Zc9 (ZcG (WE.refl _) (ZcG (WE.refl _) Zda))) Zb) Zc)

mutual
def Zam (a : Zk) (b : Zk) : Option (Bool) :=
 if (((a.fArgs.length : Nat) : Int) != ((b.fArgs.length : Nat) : Int)) = true then
 some false
 else
 ZaD 0 a b a.fArgs
 partial_fixpoint
def ZaD (i_5 : Nat) (a : Zk) (b : Zk) (Zaw : (List Zk)) : Option (Bool) :=
 (match Zaw with
 | x32 :: Zvy =>
 (b.fArgs[i_5]?) >>= fun x37 =>
 Zam x32 x37 >>= fun r38 =>
 if (!r38) = true then
 some false
 else
 ZaD (i_5 + 1) a b Zvy
 | [] =>
 some true)
 partial_fixpoint
end
def Zam.M (a : Zk) (b : Zk) (r : Bool) : Prop :=
 Zj Tryz.prog 65 [.agg [.sl (a.fArgs.map Zk.cells)], .agg [.sl (b.fArgs.map Zk.cells)]] [] (fun d b => d = .c none (.v (.bool r)) ∧ b = [])
def ZaD.M (i_5 : Nat) (a : Zk) (b : Zk) (Zaw : (List Zk)) (r : Bool) : Prop :=
 ∀ Zdy : List Zk, a.fArgs = Zdy ++ Zaw → i_5 = Zdy.length → a.fArgs.length ≤ maxLen → b.fArgs.length ≤ maxLen → AWL Tryz.prog 32 (Code.sub (Zq Tryz.f65) [1, 1, 0, 1, 0, 0]) (Code.cont Tryz.prog 32 (Zq Tryz.f65) [1, 1, 0, 1, 0] (ZbW tab Tryz.f65.results (ZbY (.c none (.v (.bool r))) []))) ⟨[(2, .ptr 2 0), (3, .ptr 3 0), (5, .c none (.v (.int .i64 ((i_5 : Nat) : Int))))], [(2, [(none, .sl (a.fArgs.map Zk.cells))]), (3, [(none, .sl (b.fArgs.map Zk.cells))])]⟩
theorem Zhi : (∀ (a : Zk) (b : Zk), ∀ r, Zam a b = some r → Zam.M a b r) ∧ (∀ (i_5 : Nat) (a : Zk) (b : Zk) (Zaw : (List Zk)), ∀ r, ZaD i_5 a b Zaw = some r → ZaD.M i_5 a b Zaw r) := by
 refine Zam.mutual_partial_correctness Zam.M ZaD.M ?_ ?_
 ·intro lazycref04_SameKind_l1' ZeJ a b r hF
  unfold Zam.M
  refine en Tryz.func65 ?_
  refine AWP.seq ?_
  refine ns ?_
  refine AWP.seq ?_
  refine AWP.seq ?_
  refine ns ?_
  intro hlen4
  (try rw [List.length_map] at hlen4)
  (try rw [List.length_map])
  refine st ?_
  intro hlen5
  (try rw [List.length_map] at hlen5)
  (try rw [List.length_map])
  refine st ?_
  refine nw ?_
  refine Zi hF (fun hc6 hF => ?_) (fun hc6 hF => ?_)
  ·refine AWP.seq ?_
   refine ns ?_
   obtain rfl := Zg hF
   refine ns ?_
   refine Exists.intro [] ?_
   refine st ?_
   exact wx (WS.mk (tc Zb) Zc)
  ·refine nw ?_
   refine AWP.seq ?_
   refine AWP.seq ?_
   refine ns ?_
   refine AWP.block ?_
   refine AWP.loop ?_
   refine AWL.weak (rn []) ?_ (ZeJ 0 a b a.fArgs _ hF ([]) rfl rfl hlen4 hlen5)
   exact (WS.mk (tp (tp (tc Zb))) (Zf rfl (cc Zh) (Zf rfl (cc Zh) Zc)))
 ·intro lazycref04_SameKind' lazycref04_SameKind_l1' ZlL ZeJ i_5 a b Zaw r hF
  unfold ZaD.M
  intro Zdy ZhF Zhp hlen4 hlen5
  refine AWL.step ?_
  refine AWP.seq ?_
  refine AWP.seq ?_
  refine ns ?_
  intro hlen31
  (try rw [List.length_map] at hlen31)
  (try rw [List.length_map])
  refine st ?_
  refine nw ?_
  refine ZN ZhF Zhp (fun x32 Zvy ZvZ ZBd ZEr => ?_) (fun ZvZ => ?_)
  ·subst ZvZ
   refine nw ?_
   refine AWP.seq ?_
   refine AWP.block ?_
   refine AWP.seq ?_
   obtain ⟨x37, ZHi, hF⟩ := bind_some hF
   obtain ⟨r38, ZAW, hF⟩ := bind_some hF
   refine nn ?_
   refine Or.inl (Exists.intro 10 (Exists.intro [[], [], [], [], [], [], [], [], [], []] (Exists.intro [([20, 21, 22, 23, 24, 25, 26, 27, 28, 29], [], []), ([21, 22, 23, 24, 25, 26, 27, 28, 29], [], []), ([20, 21, 22, 23, 24, 25, 26, 27, 28, 29], [], []), ([23, 24, 25, 26, 27, 28, 29], [], []), ([24, 25, 26, 27, 28, 29], [], []), ([20, 21, 22, 23, 24, 25, 26, 27, 28, 29], [], []), ([20, 21, 22, 23, 24, 26, 27, 28, 29], [], []), ([20, 21, 22, 23, 24, 25, 26, 27, 28, 29], [], []), ([20, 21, 22, 23, 24, 28, 29], [], []), ([20, 21, 22, 23, 24, 29], [], [])] (Exists.intro [20, 21, 22, 23, 24, 25, 26, 27, 28, 29] (And.intro (by decide +kernel) ?_)))))
   refine dp ?_
   refine dp ?_
   refine dp ?_
   refine dr (Zab (Zk.cells_eq x32) ZBd) ?_
   refine dp ?_
   refine dp ?_
   refine dp ?_
   refine dp ?_
   refine dr (Zab (Zk.cells_eq x37) ZHi) ?_
   refine dp ?_
   refine st ?_
   refine e3 ?_
   refine st ?_
   refine cm (Zj.weak (rn []) (ZlL x32 x37 _ ZAW) rfl (WS.mk (Zd (Zt (lc Zo)) (Zd (Zt (lc Zo)) Zb)) Zc)) ?_
   refine st ?_
   refine nw ?_
   refine Zi hF (fun ZhU hF => ?_) (fun ZhU hF => ?_)
   ·refine AWP.seq ?_
    refine ns ?_
    obtain rfl := Zg hF
    refine ns ?_
    refine Exists.intro [] ?_
    refine st ?_
    exact wx (WS.mk (tc Zb) Zc)
   ·refine nw ?_
    refine ns ?_
    refine AWL.weak (rn []) ?_ (ZeJ (i_5 + 1) a b Zvy _ hF (Zdy ++ [x32]) (by rw [ZhF]; simp) (by rw [Zhp]; simp) hlen31 hlen5)
    exact (WS.mk (tp (tp (Zd (Zr (Zdf (ZV hlen31 ZEr))) Zb))) (Zf rfl (cc Zh) (Zf rfl (cc Zh) Zc)))
  ·subst ZvZ
   refine nw ?_
   refine AWP.seq ?_
   refine ns ?_
   obtain rfl := Zg hF
   refine ns ?_
   refine Exists.intro [] ?_
   refine st ?_
   exact wx (WS.mk (tc Zb) Zc)
theorem Zlg : ∀ (a : Zk) (b : Zk), ∀ r, Zam a b = some r → Zam.M a b r := Zhi.1
theorem lazycref04_SameKind_l1_ok : ∀ (i_5 : Nat) (a : Zk) (b : Zk) (Zaw : (List Zk)), ∀ r, ZaD i_5 a b Zaw = some r → ZaD.M i_5 a b Zaw r := Zhi.2

def Zcl (l : (List ByteArray)) (s : ByteArray) (i_5 : Int) : Option (Int) :=
 if (decide (i_5 ≥ 0)) = true then
 (ixI l i_5) >>= fun x12 =>
 if (x12.toList == s.toList) = true then
 some i_5
 else
 Zcl l s (IntKind.i64.wrap (i_5 - 1))
 else
 some (-1)
 partial_fixpoint
def Zcl.M (l : (List ByteArray)) (s : ByteArray) (i_5 : Int) (r : Int) : Prop :=
 l.length ≤ maxLen → AWL Tryz.prog 20 (Code.sub (Zq Tryz.f66) [1, 0, 1, 0, 0]) (Code.cont Tryz.prog 20 (Zq Tryz.f66) [1, 0, 1, 0] (ZbW tab Tryz.f66.results (ZbY (.c none (.v (.int .i64 r))) []))) ⟨[(0, .c none (.sl (l.map c_S))), (1, .c none (.v (.string s))), (5, .c none (.v (.int .i64 i_5)))], []⟩
theorem Zmi (l : (List ByteArray)) (s : ByteArray) (i_5 : Int) : ∀ r, Zcl l s i_5 = some r → Zcl.M l s i_5 r := by
 refine Zcl.partial_correctness l s (fun i_5 r => Zcl.M l s i_5 r) ?_ i_5
 intro lazycref04_last_l1' Zhs i_5 r hF
 have Zmo := fun (_l : (List ByteArray)) (_s : ByteArray) (i_5 : Int) => Zhs i_5
 clear Zhs
 unfold Zcl.M
 intro hlen1
 refine AWL.step ?_
 refine AWP.seq ?_
 refine AWP.seq ?_
 refine ns ?_
 refine nw ?_
 refine Zi hF (fun ZcP hF => ?_) (fun ZcP hF => ?_)
 ·refine nw ?_
  refine AWP.seq ?_
  refine AWP.block ?_
  refine AWP.seq ?_
  obtain ⟨x12, hx120, ZIq, hF⟩ := ZcL hF
  refine nn ?_
  refine sr (ZbX (f := c_S) rfl ZIq) ?_
  refine st ?_
  refine nw ?_
  refine Zi hF (fun ZbB hF => ?_) (fun ZbB hF => ?_)
  ·refine AWP.seq ?_
   refine ns ?_
   obtain rfl := Zg hF
   refine ns ?_
   refine Exists.intro [] ?_
   refine st ?_
   exact wx (WS.mk (tc Zb) Zc)
  ·refine nw ?_
   refine ns ?_
   refine AWL.weak (rn []) ?_ (Zmo l s (IntKind.i64.wrap (i_5 - 1)) _ hF hlen1)
   exact (WS.mk (tc (tc (tc Zb))) Zc)
 ·refine nw ?_
  refine AWP.seq ?_
  refine ns ?_
  obtain rfl := Zg hF
  refine ns ?_
  refine Exists.intro [] ?_
  refine st ?_
  exact wx (WS.mk (tc Zb) Zc)

def Zct (l : (List ByteArray)) (s : ByteArray) : Option (Int) :=
 Zcl l s (IntKind.i64.wrap (((l.length : Nat) : Int) - 1))
def Zct.M (l : (List ByteArray)) (s : ByteArray) (r : Int) : Prop :=
 Zj Tryz.prog 66 [.c none (.sl (l.map c_S)), .c none (.v (.string s))] [] (fun d b => d = .c none (.v (.int .i64 r)) ∧ b = [])
theorem Zjx (l : (List ByteArray)) (s : ByteArray) (r : Int) (hF : Zct l s = some r) : Zct.M l s r := by
 unfold Zct at hF
 unfold Zct.M
 refine en Tryz.func66 ?_
 refine AWP.seq ?_
 refine ns ?_
 refine AWP.seq ?_
 refine AWP.seq ?_
 refine ns ?_
 intro hlen1
 (try rw [List.length_map] at hlen1)
 (try rw [List.length_map])
 refine st ?_
 refine AWP.block ?_
 refine AWP.loop ?_
 refine AWL.weak (rn []) ?_ (Zmi l s (IntKind.i64.wrap (((l.length : Nat) : Int) - 1)) _ hF hlen1)
 exact (WS.mk (tc (tc (tc Zb))) Zc)

mutual
def ZaS (a : Za) (b : Za) (x : (List ByteArray)) (y : (List ByteArray)) : Option (Bool) :=
 (if ((a.fOp != b.fOp) || (((a.fKids.length : Nat) : Int) != ((b.fKids.length : Nat) : Int))) = true then some true else Zam a.fBound b.fBound >>= fun r8 =>
 some (!r8)) >>= fun c9 =>
 if c9 = true then
 some false
 else
 if (a.fOp == 1) = true then
 Zct x a.fName >>= fun r60 =>
 Zct y b.fName >>= fun r61 =>
 some ((r60 == r61) && ((decide (r60 ≥ 0)) || (a.fName.toList == b.fName.toList)))
 else
 if (a.fOp == 4) = true then
 Z4 ((0 + x.length) * 16 ≤ 140737488355328) >>= fun _ =>
 Z4 ((x.length + ([a.fName]).length) * 16 ≤ 140737488355328) >>= fun _ =>
 Z4 ((0 + y.length) * 16 ≤ 140737488355328) >>= fun _ =>
 Z4 ((y.length + ([b.fName]).length) * 16 ≤ 140737488355328) >>= fun _ =>
 ZaI (x ++ ([a.fName])) (y ++ ([b.fName])) a b
 else
 if (!(a.fName.toList == b.fName.toList)) = true then
 some false
 else
 ZaI x y a b
 partial_fixpoint
def ZaI (x_2 : (List ByteArray)) (y_3 : (List ByteArray)) (a : Za) (b : Za) : Option (Bool) :=
 Z6 x_2 y_3 0 a b a.fKids
 partial_fixpoint
def Z6 (x_2 : (List ByteArray)) (y_3 : (List ByteArray)) (Zgh : Nat) (a : Za) (b : Za) (ZcI : (List Za)) : Option (Bool) :=
 (match ZcI with
 | x49 :: ZDq =>
 (b.fKids[Zgh]?) >>= fun x54 =>
 ZaS x49 x54 x_2 y_3 >>= fun r55 =>
 if (!r55) = true then
 some false
 else
 Z6 x_2 y_3 (Zgh + 1) a b ZDq
 | [] =>
 some true)
 partial_fixpoint
end
def ZaS.M (a : Za) (b : Za) (x : (List ByteArray)) (y : (List ByteArray)) (r : Bool) : Prop :=
 Zj Tryz.prog 40 [.agg [.v (.int .i64 a.fOp), .v (.string a.fName), .sl (a.fBound.fArgs.map Zk.cells), .sl (a.fKids.map Za.cells)], .agg [.v (.int .i64 b.fOp), .v (.string b.fName), .sl (b.fBound.fArgs.map Zk.cells), .sl (b.fKids.map Za.cells)], .c none (.sl (x.map c_S)), .c none (.sl (y.map c_S))] [] (fun d b => d = .c none (.v (.bool r)) ∧ b = [])
def ZaI.M (x_2 : (List ByteArray)) (y_3 : (List ByteArray)) (a : Za) (b : Za) (r : Bool) : Prop :=
 AWP Tryz.prog 108 (Code.sub (Zq Tryz.f40) [1, 1, 1]) (Code.cont Tryz.prog 108 (Zq Tryz.f40) [1, 1, 1] (ZbW tab Tryz.f40.results (ZbY (.c none (.v (.bool r))) []))) ⟨[(2, .c none (.sl (x_2.map c_S))), (3, .c none (.sl (y_3.map c_S))), (4, .ptr 4 0), (5, .ptr 5 0)], [(4, [(none, .v (.int .i64 a.fOp)), (none, .v (.string a.fName)), (none, .sl (a.fBound.fArgs.map Zk.cells)), (none, .sl (a.fKids.map Za.cells))]), (5, [(none, .v (.int .i64 b.fOp)), (none, .v (.string b.fName)), (none, .sl (b.fBound.fArgs.map Zk.cells)), (none, .sl (b.fKids.map Za.cells))])]⟩
def Z6.M (x_2 : (List ByteArray)) (y_3 : (List ByteArray)) (Zgh : Nat) (a : Za) (b : Za) (ZcI : (List Za)) (r : Bool) : Prop :=
 ∀ ZhC : List Za, a.fKids = ZhC ++ ZcI → Zgh = ZhC.length → AWL Tryz.prog 108 (Code.sub (Zq Tryz.f40) [1, 1, 1, 0, 1, 0, 0]) (Code.cont Tryz.prog 108 (Zq Tryz.f40) [1, 1, 1, 0, 1, 0] (ZbW tab Tryz.f40.results (ZbY (.c none (.v (.bool r))) []))) ⟨[(2, .c none (.sl (x_2.map c_S))), (3, .c none (.sl (y_3.map c_S))), (4, .ptr 4 0), (5, .ptr 5 0), (13, .c none (.v (.int .i64 ((Zgh : Nat) : Int))))], [(4, [(none, .v (.int .i64 a.fOp)), (none, .v (.string a.fName)), (none, .sl (a.fBound.fArgs.map Zk.cells)), (none, .sl (a.fKids.map Za.cells))]), (5, [(none, .v (.int .i64 b.fOp)), (none, .v (.string b.fName)), (none, .sl (b.fBound.fArgs.map Zk.cells)), (none, .sl (b.fKids.map Za.cells))])]⟩
theorem Zf0 : (∀ (a : Za) (b : Za) (x : (List ByteArray)) (y : (List ByteArray)), ∀ r, ZaS a b x y = some r → ZaS.M a b x y r) ∧ (∀ (x_2 : (List ByteArray)) (y_3 : (List ByteArray)) (a : Za) (b : Za), ∀ r, ZaI x_2 y_3 a b = some r → ZaI.M x_2 y_3 a b r) ∧ (∀ (x_2 : (List ByteArray)) (y_3 : (List ByteArray)) (Zgh : Nat) (a : Za) (b : Za) (ZcI : (List Za)), ∀ r, Z6 x_2 y_3 Zgh a b ZcI = some r → Z6.M x_2 y_3 Zgh a b ZcI r) := by
 refine ZaS.mutual_partial_correctness ZaS.M ZaI.M Z6.M ?_ ?_ ?_
 ·intro lazycref04_Alike_k1' ZhM a b x y r hF
  unfold ZaS.M
  refine en Tryz.func40 ?_
  refine AWP.seq ?_
  refine ns ?_
  refine AWP.seq ?_
  refine AWP.seq ?_
  obtain ⟨c9, hc9, hF⟩ := bind_some hF
  refine AWP.cutN (fun T => ∃ r, WS r T ⟨[(2, .c none (.sl (x.map c_S))), (3, .c none (.sl (y.map c_S))), (4, .ptr 4 0), (5, .ptr 5 0), (35, .c none (.v (.bool c9)))], [(4, [(none, .v (.int .i64 a.fOp)), (none, .v (.string a.fName)), (none, .sl (a.fBound.fArgs.map Zk.cells)), (none, .sl (a.fKids.map Za.cells))]), (5, [(none, .v (.int .i64 b.fOp)), (none, .v (.string b.fName)), (none, .sl (b.fBound.fArgs.map Zk.cells)), (none, .sl (b.fKids.map Za.cells))])]⟩) ?_ (fun T hw => ?_)
  ·refine ns ?_
   refine Zm false (fun Zdt => ?_) (fun Zdt => ?_)
   ·(conv => whnf)
    have hc9 := ift Zdt hc9
    obtain rfl := Zg hc9
    refine st ?_
    exact wx (WS.mk (tc (tc (tp (tp (Zd (Zr (web Zdt)) Zb))))) (Zf rfl (cc (cc (cc (cc Zh)))) (Zf rfl (cc (cc (cc (cc Zh)))) Zc)))
   ·(conv => whnf)
    refine st ?_
    intro hlen6
    (try rw [List.length_map] at hlen6)
    (try rw [List.length_map])
    refine st ?_
    intro hlen7
    (try rw [List.length_map] at hlen7)
    (try rw [List.length_map])
    refine st ?_
    refine Zm false (fun ZcP => ?_) (fun ZcP => ?_)
    ·have hc9 := ift (And.intro Zdt ZcP) hc9
     (conv => whnf)
     obtain rfl := Zg hc9
     refine st ?_
     exact wx (WS.mk (tc (tc (tp (tp (Zd (Zr (web (And.intro Zdt ZcP))) Zb))))) (Zf rfl (cc (cc (cc (cc Zh)))) (Zf rfl (cc (cc (cc (cc Zh)))) Zc)))
    ·have hc9 := ife (And.intro Zdt ZcP) hc9
     obtain ⟨r8, hr8, hc9⟩ := bind_some hc9
     (conv => whnf)
     refine st ?_
     refine e3 ?_
     refine st ?_
     refine cm (Zj.weak (rn []) (Zlg a.fBound b.fBound _ hr8) rfl (WS.mk (Zd (Zt (lc Zo)) (Zd (Zt (lc Zo)) Zb)) Zc)) ?_
     refine st ?_
     obtain rfl := Zg hc9
     refine st ?_
     exact wx (WS.mk (tc (tc (tp (tp (Zd (Zr (web (And.intro Zdt ZcP))) Zb))))) (Zf rfl (cc (cc (cc (cc Zh)))) (Zf rfl (cc (cc (cc (cc Zh)))) Zc)))
  obtain ⟨r0, hw⟩ := hw
  (conv => whnf)
  refine AWP.weak r0 hw ?_
  refine nw ?_
  refine Zi hF (fun ZcJ hF => ?_) (fun ZcJ hF => ?_)
  ·refine AWP.seq ?_
   refine ns ?_
   obtain rfl := Zg hF
   refine ns ?_
   refine Exists.intro [] ?_
   refine st ?_
   exact wx (WS.mk (tc Zb) Zc)
  ·refine nw ?_
   refine AWP.seq ?_
   refine AWP.seq ?_
   refine ns ?_
   refine AWP.block ?_
   refine AWP.seq ?_
   refine ns ?_
   refine nw ?_
   refine Zi hF (fun Zig hF => ?_) (fun Zig hF => ?_)
   ·refine AWP.seq ?_
    obtain ⟨r60, ZD5, hF⟩ := bind_some hF
    obtain ⟨r61, ZAj, hF⟩ := bind_some hF
    refine nn ?_
    refine Or.inr (Exists.intro [0, 4, 5, 6] (Exists.intro [[45, 49, 50, 51], [45, 49, 50, 51], [45, 49, 50, 51], [45, 49, 51]] (Exists.intro [5] (Exists.intro [2, 3, 5, 45, 49, 50, 51] (Exists.intro [45, 49, 50, 51] (Exists.intro [1, 2, 3, 7, 8, 9] (And.intro (by decide +kernel) ?_)))))))
    refine dp ?_
    refine dp ?_
    refine dp ?_
    refine dp ?_
    refine st ?_
    refine e3 ?_
    refine st ?_
    refine cm (Zj.weak (rn []) (Zjx x a.fName _ ZD5) rfl (WS.mk (tc (tc Zb)) Zc)) ?_
    refine st ?_
    refine e3 ?_
    refine st ?_
    refine cm (Zj.weak (rn []) (Zjx y b.fName _ ZAj) rfl (WS.mk (tc (tc Zb)) Zc)) ?_
    refine st ?_
    refine AWP.seq ?_
    refine AWP.cutN (fun T => ∃ r, WS r T ⟨[(8, .c none (.v (.bool ((r60 == r61) && ((decide (r60 ≥ 0)) || (a.fName.toList == b.fName.toList))))))], []⟩) ?_ (fun T hw => ?_)
    ·refine ns ?_
     refine Zm true (fun Zu3 => ?_) (fun Zu3 => ?_)
     ·(conv => whnf)
      refine st ?_
      refine Zm false (fun Zqe => ?_) (fun Zqe => ?_)
      ·(conv => whnf)
       refine st ?_
       exact wx (WS.mk (Zd (Zr (web (And.intro Zu3 Zqe))) Zb) Zc)
      ·(conv => whnf)
       refine st ?_
       exact wx (WS.mk (Zd (Zr (web (And.intro Zu3 Zqe))) Zb) Zc)
     ·(conv => whnf)
      refine st ?_
      exact wx (WS.mk (Zd (Zr (web Zu3)) Zb) Zc)
    obtain ⟨r0, hw⟩ := hw
    (conv => whnf)
    refine AWP.weak r0 hw ?_
    obtain rfl := Zg hF
    refine ns ?_
    refine Exists.intro [] ?_
    refine st ?_
    exact wx (WS.mk (tc Zb) Zc)
   ·refine AWP.seq ?_
    refine ns ?_
    refine nw ?_
    refine Zi hF (fun ZrI hF => ?_) (fun ZrI hF => ?_)
    ·refine AWP.seq ?_
     refine ns ?_
     refine AWP.seq ?_
     obtain ⟨ZCG, hF⟩ := Zy hF
     refine nn ?_
     refine sa (fun l => ZbO l (fun x => ZfK x)) ZCG ?_
     refine Exists.intro _ (And.intro (WE.refl _) ?_)
     (try rw [List.nil_append])
     refine st ?_
     refine AWP.seq ?_
     obtain ⟨ZG5, hF⟩ := Zy hF
     refine ns ?_
     refine Exists.intro _ (And.intro (Zbs (f := c_S) (lc Zo) (ZY (f := c_S))) ?_)
     refine sa (fun l => ZbO l (fun x => ZfK x)) ZG5 ?_
     refine Exists.intro _ (And.intro (WE.refl _) ?_)
     rw [← List.map_append]
     refine st ?_
     refine AWP.seq ?_
     obtain ⟨ZHV, hF⟩ := Zy hF
     refine nn ?_
     refine sa (fun l => ZbO l (fun x => ZfK x)) ZHV ?_
     refine Exists.intro _ (And.intro (WE.refl _) ?_)
     (try rw [List.nil_append])
     refine st ?_
     refine AWP.seq ?_
     obtain ⟨ZHY, hF⟩ := Zy hF
     refine ns ?_
     refine Exists.intro _ (And.intro (Zbs (f := c_S) (lc Zo) (ZY (f := c_S))) ?_)
     refine sa (fun l => ZbO l (fun x => ZfK x)) ZHY ?_
     refine Exists.intro _ (And.intro (WE.refl _) ?_)
     rw [← List.map_append]
     refine st ?_
     refine AWP.seq ?_
     refine ns ?_
     refine ns ?_
     refine AWP.weak (rn []) ?_ (ZhM (x ++ ([a.fName])) (y ++ ([b.fName])) a b _ hF)
     exact (WS.mk (tc (tc (tp (tp Zb)))) (Zf rfl (cc (cc (cc (cc Zh)))) (Zf rfl (cc (cc (cc (cc Zh)))) Zc)))
    ·refine AWP.seq ?_
     refine ns ?_
     refine nw ?_
     refine Zi hF (fun ZDD hF => ?_) (fun ZDD hF => ?_)
     ·refine AWP.seq ?_
      refine ns ?_
      obtain rfl := Zg hF
      refine ns ?_
      refine Exists.intro [] ?_
      refine st ?_
      exact wx (WS.mk (tc Zb) Zc)
     ·refine nw ?_
      refine AWP.weak (rn []) ?_ (ZhM x y a b _ hF)
      exact (WS.mk (tc (tc (tp (tp Zb)))) (Zf rfl (cc (cc (cc (cc Zh)))) (Zf rfl (cc (cc (cc (cc Zh)))) Zc)))
 ·intro lazycref04_Alike_l2' Zfl x_2 y_3 a b r hF
  unfold ZaI.M
  refine AWP.seq ?_
  refine AWP.seq ?_
  refine ns ?_
  refine AWP.block ?_
  refine AWP.loop ?_
  refine AWL.weak (rn []) ?_ (Zfl x_2 y_3 0 a b a.fKids _ hF ([]) rfl rfl)
  exact (WS.mk (tc (tc (tp (tp (tc Zb))))) (Zf rfl (cc (cc (cc (cc Zh)))) (Zf rfl (cc (cc (cc (cc Zh)))) Zc)))
 ·intro lazycref04_Alike' lazycref04_Alike_l2' ZnD Zfl x_2 y_3 Zgh a b ZcI r hF
  unfold Z6.M
  intro ZhC ZoO ZoB
  refine AWL.step ?_
  refine AWP.seq ?_
  refine AWP.seq ?_
  refine ns ?_
  intro hlen48
  (try rw [List.length_map] at hlen48)
  (try rw [List.length_map])
  refine st ?_
  refine nw ?_
  refine ZN ZoO ZoB (fun x49 ZDq ZCW ZId ZDP => ?_) (fun ZCW => ?_)
  ·subst ZCW
   refine nw ?_
   refine AWP.seq ?_
   refine AWP.block ?_
   refine AWP.seq ?_
   obtain ⟨x54, ZHF, hF⟩ := bind_some hF
   obtain ⟨r55, ZGO, hF⟩ := bind_some hF
   refine nn ?_
   refine Or.inl (Exists.intro 12 (Exists.intro [[], [], [], [], [], [], [], [], [], [], [], []] (Exists.intro [([94, 95, 96, 97, 98, 99, 100, 101, 102, 103, 104, 105], [], []), ([95, 96, 97, 98, 99, 100, 101, 102, 103, 104, 105], [], []), ([94, 95, 96, 97, 98, 99, 100, 101, 102, 103, 104, 105], [], []), ([97, 98, 99, 100, 101, 102, 103, 104, 105], [], []), ([98, 99, 100, 101, 102, 103, 104, 105], [], []), ([94, 95, 96, 97, 98, 99, 100, 101, 102, 103, 104, 105], [], []), ([94, 95, 96, 97, 98, 100, 101, 102, 103, 104, 105], [], []), ([94, 95, 96, 97, 98, 99, 100, 101, 102, 103, 104, 105], [], []), ([94, 95, 96, 97, 98, 102, 103, 104, 105], [], []), ([94, 95, 96, 97, 98, 103, 104, 105], [], []), ([94, 95, 96, 97, 98, 99, 100, 101, 102, 103, 104, 105], [], []), ([94, 95, 96, 97, 98, 99, 100, 101, 102, 103, 104, 105], [], [])] (Exists.intro [94, 95, 96, 97, 98, 99, 100, 101, 102, 103, 104, 105] (And.intro (by decide +kernel) ?_)))))
   refine dp ?_
   refine dp ?_
   refine dp ?_
   refine dr (Zab (Za.cells_eq x49) ZId) ?_
   refine dp ?_
   refine dp ?_
   refine dp ?_
   refine dp ?_
   refine dr (Zab (Za.cells_eq x54) ZHF) ?_
   refine dp ?_
   refine dp ?_
   refine dp ?_
   refine st ?_
   refine e3 ?_
   refine st ?_
   refine cm (Zj.weak (rn []) (ZnD x49 x54 x_2 y_3 _ ZGO) rfl (WS.mk (Zd (Zt (lc (lc (lc (lc Zo))))) (Zd (Zt (lc (lc (lc (lc Zo))))) (tc (tc Zb)))) Zc)) ?_
   refine st ?_
   refine nw ?_
   refine Zi hF (fun ZkZ hF => ?_) (fun ZkZ hF => ?_)
   ·refine AWP.seq ?_
    refine ns ?_
    obtain rfl := Zg hF
    refine ns ?_
    refine Exists.intro [] ?_
    refine st ?_
    exact wx (WS.mk (tc Zb) Zc)
   ·refine nw ?_
    refine ns ?_
    refine AWL.weak (rn []) ?_ (Zfl x_2 y_3 (Zgh + 1) a b ZDq _ hF (ZhC ++ [x49]) (by rw [ZoO]; simp) (by rw [ZoB]; simp))
    exact (WS.mk (tc (tc (tp (tp (Zd (Zr (Zdf (ZV hlen48 ZDP))) Zb))))) (Zf rfl (cc (cc (cc (cc Zh)))) (Zf rfl (cc (cc (cc (cc Zh)))) Zc)))
  ·subst ZCW
   refine nw ?_
   refine AWP.seq ?_
   refine ns ?_
   obtain rfl := Zg hF
   refine ns ?_
   refine Exists.intro [] ?_
   refine st ?_
   exact wx (WS.mk (tc Zb) Zc)
theorem ZnL : ∀ (a : Za) (b : Za) (x : (List ByteArray)) (y : (List ByteArray)), ∀ r, ZaS a b x y = some r → ZaS.M a b x y r := Zf0.1
theorem lazycref04_Alike_k1_ok : ∀ (x_2 : (List ByteArray)) (y_3 : (List ByteArray)) (a : Za) (b : Za), ∀ r, ZaI x_2 y_3 a b = some r → ZaI.M x_2 y_3 a b r := Zf0.2.1
theorem lazycref04_Alike_l2_ok : ∀ (x_2 : (List ByteArray)) (y_3 : (List ByteArray)) (Zgh : Nat) (a : Za) (b : Za) (ZcI : (List Za)), ∀ r, Z6 x_2 y_3 Zgh a b ZcI = some r → Z6.M x_2 y_3 Zgh a b ZcI r := Zf0.2.2

def Zca (a : Za) (b : Za) : Option (Bool) :=
 ZaG a >>= fun r1 =>
 (if (r1 == 0) = true then ZaG b >>= fun r2 =>
 some (r2 == 0) else some false) >>= fun c3 =>
 (if c3 = true then ZaS a b ([] : List ByteArray) ([] : List ByteArray) >>= fun r4 =>
 some r4 else some false) >>= fun c5 =>
 some c5
def Zca.M (a : Za) (b : Za) (r : Bool) : Prop :=
 Zj Tryz.prog 18 [.agg [.v (.int .i64 a.fOp), .v (.string a.fName), .sl (a.fBound.fArgs.map Zk.cells), .sl (a.fKids.map Za.cells)], .agg [.v (.int .i64 b.fOp), .v (.string b.fName), .sl (b.fBound.fArgs.map Zk.cells), .sl (b.fKids.map Za.cells)]] [] (fun d b => d = .c none (.v (.bool r)) ∧ b = [])
theorem Zi4 (a : Za) (b : Za) (r : Bool) (hF : Zca a b = some r) : Zca.M a b r := by
 unfold Zca at hF
 unfold Zca.M
 refine en Tryz.func18 ?_
 refine AWP.seq ?_
 refine ns ?_
 refine AWP.seq ?_
 obtain ⟨r1, hr1, hF⟩ := bind_some hF
 obtain ⟨c3, hc3, hF⟩ := bind_some hF
 obtain ⟨c5, hc5, hF⟩ := bind_some hF
 refine AWP.cutN (fun T => ∃ r, WS r T ⟨[(4, .c none (.v (.bool c5)))], []⟩) ?_ (fun T hw => ?_)
 ·refine ns ?_
  refine e3 ?_
  refine st ?_
  refine cm (Zj.weak (rn []) (ZdI a _ hr1) rfl (WS.mk (Zd (Zt (lc (lc (lc (lc Zo))))) Zb) Zc)) ?_
  refine st ?_
  refine Zm true (fun hc6 => ?_) (fun hc6 => ?_)
  ·have hc3 := ift hc6 hc3
   obtain ⟨r2, hr2, hc3⟩ := bind_some hc3
   (conv => whnf)
   refine st ?_
   refine e3 ?_
   refine st ?_
   refine cm (Zj.weak (rn []) (ZdI b _ hr2) rfl (WS.mk (Zd (Zt (lc (lc (lc (lc Zo))))) Zb) Zc)) ?_
   refine st ?_
   obtain rfl := Zg hc3
   refine st ?_
   refine Zm true (fun hc7 => ?_) (fun hc7 => ?_)
   ·have hc5 := ift (And.intro hc6 hc7) hc5
    obtain ⟨r4, hr4, hc5⟩ := bind_some hc5
    (conv => whnf)
    refine st ?_
    refine e3 ?_
    refine st ?_
    refine cm (Zj.weak (rn []) (ZnL a b ([] : List ByteArray) ([] : List ByteArray) _ hr4) rfl (WS.mk (Zd (Zt (lc (lc (lc (lc Zo))))) (Zd (Zt (lc (lc (lc (lc Zo))))) (Zd (Zr WE.nil) (Zd (Zr WE.nil) Zb)))) Zc)) ?_
    refine st ?_
    obtain rfl := Zg hc5
    refine st ?_
    exact wx (WS.mk (Zd (Zr (web (And.intro hc6 hc7))) Zb) Zc)
   ·have hc5 := ife (And.intro hc6 hc7) hc5
    (conv => whnf)
    obtain rfl := Zg hc5
    refine st ?_
    exact wx (WS.mk (Zd (Zr (web (And.intro hc6 hc7))) Zb) Zc)
  ·have hc3 := ife hc6 hc3
   (conv => whnf)
   obtain rfl := Zg hc3
   have hc5 := ife hc6 hc5
   obtain rfl := Zg hc5
   refine st ?_
   exact wx (WS.mk (Zd (Zr (web hc6)) Zb) Zc)
 obtain ⟨r0, hw⟩ := hw
 (conv => whnf)
 refine AWP.weak r0 hw ?_
 obtain rfl := Zg hF
 refine ns ?_
 refine Exists.intro [] ?_
 refine st ?_
 exact wx (WS.mk (tc Zb) Zc)

def ZbA (a : (List Ze)) (b : (List Ze)) (i_5 : Nat) (Zaw : (List Ze)) : Option (Bool) :=
 (match Zaw with
 | x32 :: Zvy =>
 (b[i_5]?) >>= fun x35 =>
 (if (!(x32.fName.toList == x35.fName.toList)) = true then some true else (b[i_5]?) >>= fun x36 =>
 Zca x32.fType x36.fType >>= fun r37 =>
 some (!r37)) >>= fun c38 =>
 if c38 = true then
 some false
 else
 ZbA a b (i_5 + 1) Zvy
 | [] =>
 some true)
 partial_fixpoint
def ZbA.M (a : (List Ze)) (b : (List Ze)) (i_5 : Nat) (Zaw : (List Ze)) (r : Bool) : Prop :=
 ∀ Zdy : List Ze, a = Zdy ++ Zaw → i_5 = Zdy.length → a.length ≤ maxLen → b.length ≤ maxLen → AWL Tryz.prog 42 (Code.sub (Zq Tryz.f14) [1, 1, 0, 1, 0, 0]) (Code.cont Tryz.prog 42 (Zq Tryz.f14) [1, 1, 0, 1, 0] (ZbW tab Tryz.f14.results (ZbY (.c none (.v (.bool r))) []))) ⟨[(0, .c none (.sl (a.map Ze.cells))), (1, .c none (.sl (b.map Ze.cells))), (5, .c none (.v (.int .i64 ((i_5 : Nat) : Int))))], []⟩
theorem Zmj (a : (List Ze)) (b : (List Ze)) (i_5 : Nat) (Zaw : (List Ze)) : ∀ r, ZbA a b i_5 Zaw = some r → ZbA.M a b i_5 Zaw r := by
 refine ZbA.partial_correctness a b (fun i_5 Zaw r => ZbA.M a b i_5 Zaw r) ?_ i_5 Zaw
 intro lazycref18_Same_l1' ZhD i_5 Zaw r hF
 have Zmf := fun (_a : (List Ze)) (_b : (List Ze)) (i_5 : Nat) (Zaw : (List Ze)) => ZhD i_5 Zaw
 clear ZhD
 unfold ZbA.M
 intro Zdy ZhF Zhp hlen4 hlen5
 refine AWL.step ?_
 refine AWP.seq ?_
 refine AWP.seq ?_
 refine ns ?_
 intro hlen31
 (try rw [List.length_map] at hlen31)
 (try rw [List.length_map])
 refine st ?_
 refine nw ?_
 refine ZN ZhF Zhp (fun x32 Zvy ZvZ ZBd ZEr => ?_) (fun ZvZ => ?_)
 ·subst ZvZ
  refine nw ?_
  refine AWP.seq ?_
  refine AWP.block ?_
  refine AWP.seq ?_
  obtain ⟨x35, ZIa, hF⟩ := bind_some hF
  obtain ⟨c38, Zkp, hF⟩ := bind_some hF
  refine AWP.cutN (fun T => ∃ r, WS r T ⟨[(0, .c none (.sl (a.map Ze.cells))), (1, .c none (.sl (b.map Ze.cells))), (5, .c none (.v (.int .i64 ((i_5 : Nat) : Int)))), (41, .c none (.v (.bool c38)))], []⟩) ?_ (fun T hw => ?_)
  ·refine nn ?_
   refine Or.inl (Exists.intro 22 (Exists.intro [[], [], [], [], [], [], [], [], [], [], [], [], [], [], [], [], [], [], [], [], [], []] (Exists.intro [([17, 18, 19, 20, 21, 22, 23, 24, 25, 26, 27, 28, 29, 30, 31, 32, 33, 34, 35, 36, 37, 38], [], []), ([17, 18, 19, 20, 21, 22, 23, 24, 25, 26, 27, 28, 29, 30, 31, 32, 33, 34, 35, 36, 37, 38], [], []), ([19, 20, 21, 22, 23, 24, 25, 26, 27, 28, 29, 30, 31, 32, 33, 34, 35, 36, 37, 38], [], []), ([20, 21, 22, 23, 24, 25, 26, 27, 28, 29, 30, 31, 32, 33, 34, 35, 36, 37, 38], [], []), ([21, 22, 23, 24, 25, 26, 27, 28, 29, 30, 31, 32, 33, 34, 35, 36, 37, 38], [], []), ([17, 18, 19, 20, 21, 22, 23, 24, 25, 26, 27, 28, 29, 30, 31, 32, 33, 34, 35, 36, 37, 38], [], []), ([17, 18, 19, 20, 21, 22, 23, 24, 25, 26, 27, 28, 29, 30, 31, 32, 33, 34, 35, 36, 37, 38], [], []), ([17, 18, 19, 20, 21, 24, 25, 26, 27, 28, 29, 30, 31, 32, 33, 34, 35, 36, 37, 38], [], []), ([17, 18, 19, 20, 21, 25, 26, 27, 28, 29, 30, 31, 32, 33, 34, 35, 36, 37, 38], [], []), ([17, 18, 19, 20, 21, 26, 27, 28, 29, 30, 31, 32, 33, 34, 35, 36, 37, 38], [], []), ([27, 28, 29, 30, 31, 32, 33, 34, 35, 36, 37, 38], [], []), ([28, 29, 30, 31, 32, 33, 34, 35, 36, 37, 38], [], []), ([29, 30, 31, 32, 33, 34, 35, 36, 37, 38], [], []), ([29, 30, 31, 32, 33, 34, 35, 36, 37, 38], [], []), ([31, 32, 33, 34, 35, 36, 37, 38], [], []), ([32, 33, 34, 35, 36, 37, 38], [], []), ([33, 34, 35, 36, 37, 38], [], []), ([29, 30, 31, 32, 33, 34, 35, 36, 37, 38], [], []), ([29, 30, 31, 32, 33, 34, 35, 36, 37, 38], [], []), ([29, 30, 31, 32, 33, 36, 37, 38], [], []), ([29, 30, 31, 32, 33, 37, 38], [], []), ([29, 30, 31, 32, 33, 38], [], [])] (Exists.intro [17, 18, 19, 20, 21, 22, 23, 24, 25, 26, 27, 28, 29, 30, 31, 32, 33, 34, 35, 36, 37, 38] (And.intro (by decide +kernel) ?_)))))
   refine dp ?_
   refine dp ?_
   refine dr (Zab (Ze.cells_eq x32) ZBd) ?_
   refine dp ?_
   refine dp ?_
   refine dp ?_
   refine dp ?_
   refine dr (Zab (Ze.cells_eq x35) ZIa) ?_
   refine dp ?_
   refine dp ?_
   refine dp ?_
   refine dp ?_
   refine st ?_
   refine Zm false (fun ZhU => ?_) (fun ZhU => ?_)
   ·have Zkp := ift ZhU Zkp
    (conv => whnf)
    obtain rfl := Zg Zkp
    refine st ?_
    exact wx (WS.mk (tc (tc (tc (Zd (Zr (web ZhU)) Zb)))) Zc)
   ·have Zkp := ife ZhU Zkp
    obtain ⟨x36, ZIJ, Zkp⟩ := bind_some Zkp
    obtain ⟨r37, ZDL, Zkp⟩ := bind_some Zkp
    (conv => whnf)
    refine dp ?_
    refine dp ?_
    refine dr (Zab (Ze.cells_eq x32) ZBd) ?_
    refine dp ?_
    refine dp ?_
    refine dp ?_
    refine dp ?_
    refine dr (Zab (Ze.cells_eq x36) ZIJ) ?_
    refine dp ?_
    refine dp ?_
    refine st ?_
    refine e3 ?_
    refine st ?_
    refine cm (Zj.weak (rn []) (Zi4 x32.fType x36.fType _ ZDL) rfl (WS.mk (Zd (Zt (lc (lc (lc (lc Zo))))) (Zd (Zt (lc (lc (lc (lc Zo))))) Zb)) Zc)) ?_
    refine st ?_
    obtain rfl := Zg Zkp
    refine st ?_
    exact wx (WS.mk (tc (tc (tc (Zd (Zr (web ZhU)) Zb)))) Zc)
  obtain ⟨r0, hw⟩ := hw
  (conv => whnf)
  refine AWP.weak r0 hw ?_
  refine nw ?_
  refine Zi hF (fun Zoj hF => ?_) (fun Zoj hF => ?_)
  ·refine AWP.seq ?_
   refine ns ?_
   obtain rfl := Zg hF
   refine ns ?_
   refine Exists.intro [] ?_
   refine st ?_
   exact wx (WS.mk (tc Zb) Zc)
  ·refine nw ?_
   refine ns ?_
   refine AWL.weak (rn []) ?_ (Zmf a b (i_5 + 1) Zvy _ hF (Zdy ++ [x32]) (by rw [ZhF]; simp) (by rw [Zhp]; simp) hlen31 hlen5)
   exact (WS.mk (tc (tc (Zd (Zr (Zdf (ZV hlen31 ZEr))) Zb))) Zc)
 ·subst ZvZ
  refine nw ?_
  refine AWP.seq ?_
  refine ns ?_
  obtain rfl := Zg hF
  refine ns ?_
  refine Exists.intro [] ?_
  refine st ?_
  exact wx (WS.mk (tc Zb) Zc)

def ZbL (a : (List Ze)) (b : (List Ze)) : Option (Bool) :=
 if (((a.length : Nat) : Int) != ((b.length : Nat) : Int)) = true then
 some false
 else
 ZbA a b 0 a
def ZbL.M (a : (List Ze)) (b : (List Ze)) (r : Bool) : Prop :=
 Zj Tryz.prog 14 [.c none (.sl (a.map Ze.cells)), .c none (.sl (b.map Ze.cells))] [] (fun d b => d = .c none (.v (.bool r)) ∧ b = [])
theorem ZjK (a : (List Ze)) (b : (List Ze)) (r : Bool) (hF : ZbL a b = some r) : ZbL.M a b r := by
 unfold ZbL at hF
 unfold ZbL.M
 refine en Tryz.func14 ?_
 refine AWP.seq ?_
 refine ns ?_
 refine AWP.seq ?_
 refine AWP.seq ?_
 refine ns ?_
 intro hlen4
 (try rw [List.length_map] at hlen4)
 (try rw [List.length_map])
 refine st ?_
 intro hlen5
 (try rw [List.length_map] at hlen5)
 (try rw [List.length_map])
 refine st ?_
 refine nw ?_
 refine Zi hF (fun hc6 hF => ?_) (fun hc6 hF => ?_)
 ·refine AWP.seq ?_
  refine ns ?_
  obtain rfl := Zg hF
  refine ns ?_
  refine Exists.intro [] ?_
  refine st ?_
  exact wx (WS.mk (tc Zb) Zc)
 ·refine nw ?_
  refine AWP.seq ?_
  refine AWP.seq ?_
  refine ns ?_
  refine AWP.block ?_
  refine AWP.loop ?_
  refine AWL.weak (rn []) ?_ (Zmj a b 0 a _ hF ([]) rfl rfl hlen4 hlen5)
  exact (WS.mk (tc (tc (tc Zb))) Zc)

def Zdj (s : ByteArray) : Option (Za) :=
 some (Za.mk 2 s (Zk.mk ([] : List Zk)) ([] : List Za))
def Zdj.M (s : ByteArray) (r : Za) : Prop :=
 Zj Tryz.prog 30 [.c none (.v (.string s))] [] (fun d b => d = .agg [.v (.int .i64 r.fOp), .v (.string r.fName), .sl (r.fBound.fArgs.map Zk.cells), .sl (r.fKids.map Za.cells)] ∧ b = [])
theorem ZfO (s : ByteArray) (r : Za) (hF : Zdj s = some r) : Zdj.M s r := by
 unfold Zdj at hF
 unfold Zdj.M
 refine en Tryz.func30 ?_
 refine AWP.seq ?_
 refine ns ?_
 refine AWP.seq ?_
 refine ns ?_
 obtain rfl := Zg hF
 refine ns ?_
 refine Exists.intro [] ?_
 refine st ?_
 exact wx (WS.mk (Zd (Zt (lc (lc (ZaR WE.nil (ZaR WE.nil Zo))))) Zb) Zc)

end Go.Proofs.YtgbglhbdjambbaaGreatDoor
