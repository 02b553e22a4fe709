/- Part 6 of the proof: the program's functions as Lean functions with their walks, and the plain law. It holds for every input, without conditions. -/
import Derived.Test.YtgbglhbdjambbaaGreatDoorUqA
import Derived.Test.YtgbglhbdjambbaaGreatDoorUqB
import Derived.Test.YtgbglhbdjambbaaGreatDoorUqC
import Derived.Test.YtgbglhbdjambbaaGreatDoorUqD
import Derived.Test.YtgbglhbdjambbaaGreatDoorUqE
set_option linter.unusedVariables false
set_option linter.unusedSimpArgs false
set_option maxRecDepth 100000
set_option maxHeartbeats 4000000
set_option synthInstance.maxHeartbeats 1000000
set_option synthInstance.maxSize 1000
namespace Go.Proofs.YtgbglhbdjambbaaGreatDoor
open Go Go.Am
mutual
def Zcl (t : Za) : Option (Za) :=
 ZaT t.fBound >>= fun r1 =>
 ZaJ t 0 r1 ([]) t.fKids
 partial_fixpoint
def ZaJ (t : Za) (Zfx : Nat) (r1 : (Zk)) (Ze7 : (List Za)) (Zce : (List Za)) : Option (Za) :=
 (match Zce with
 | x60 :: ZCw =>
 Zcl x60 >>= fun r69 =>
 Z5 ((Ze7.length + ([r69]).length) * 72 ≤ 140737488355328) >>= fun _ =>
 ZaJ t (Zfx + 1) r1 (Ze7 ++ ([r69])) ZCw
 | [] =>
 some (Za.mk t.fOp t.fName r1 Ze7))
 partial_fixpoint
end
def Zcl.M (t : Za) (r : Za) : Prop :=
 Zj Tryz.prog 95 [.agg [.v (.int .i64 t.fOp), .v (.string t.fName), .sl (t.fBound.fArgs.map Zk.cells), .sl (t.fKids.map Za.cells)]] [] (fun d b => d = .agg [.v (.int .i64 r.fOp), .v (.string r.fName), .sl (r.fBound.fArgs.map Zk.cells), .sl (r.fKids.map Za.cells)] ∧ b = [])
def ZaJ.M (t : Za) (Zfx : Nat) (r1 : (Zk)) (Ze7 : (List Za)) (Zce : (List Za)) (r : Za) : Prop :=
 ∀ ZeT : List Za, t.fKids = ZeT ++ Zce → Zfx = ZeT.length → t.fKids.length ≤ maxLen → AWL Tryz.prog 28 (Code.sub (Zq Tryz.f95) [1, 1, 1, 1, 0, 1, 0, 0]) (Code.cont Tryz.prog 28 (Zq Tryz.f95) [1, 1, 1, 1, 0, 1, 0] (ZbW tab Tryz.f95.results (ZbY (.agg [.v (.int .i64 r.fOp), .v (.string r.fName), .sl (r.fBound.fArgs.map Zk.cells), .sl (r.fKids.map Za.cells)]) []))) ⟨[(1, .ptr 1 0), (2, .ptr 2 0), (13, .c none (.sl (t.fKids.map Za.cells))), (14, .c none (.v (.int .i64 ((t.fKids.length : Nat) : Int)))), (15, .c none (.v (.int .i64 ((Zfx : Nat) : Int))))], [(1, [(none, .v (.int .i64 t.fOp)), (none, .v (.string t.fName)), (none, .sl (r1.fArgs.map Zk.cells)), ((some (4053, 28)), .sl (Ze7.map Za.cells))]), (2, [(none, .v (.int .i64 0)), (none, .v (.string (ByteArray.mk #[]))), (none, .nils), (none, .nils)])]⟩
theorem Zk6 : (∀ (t : Za), ∀ r, Zcl t = some r → Zcl.M t r) ∧ (∀ (t : Za) (Zfx : Nat) (r1 : (Zk)) (Ze7 : (List Za)) (Zce : (List Za)), ∀ r, ZaJ t Zfx r1 Ze7 Zce = some r → ZaJ.M t Zfx r1 Ze7 Zce r) := by
 refine Zcl.mutual_partial_correctness Zcl.M ZaJ.M ?_ ?_
 ·intro types_copied_l1' ZgZ t r hF
  unfold Zcl.M
  refine en Tryz.func95 ?_
  refine AWP.seq ?_
  refine ns ?_
  refine AWP.seq ?_
  obtain ⟨r1, hr1, hF⟩ := bind_some hF
  refine ns ?_
  refine e3 ?_
  refine st ?_
  refine cm (Zj.weak (rn []) (ZnG t.fBound _ hr1) rfl (WS.mk (Zd (Zt (lc Zo)) Zb) Zc)) ?_
  refine st ?_
  refine AWP.seq ?_
  refine ns ?_
  refine AWP.seq ?_
  refine ns ?_
  refine AWP.seq ?_
  refine AWP.seq ?_
  refine ns ?_
  intro hlen36
  (try rw [List.length_map] at hlen36)
  (try rw [List.length_map])
  refine st ?_
  refine AWP.block ?_
  refine AWP.loop ?_
  refine AWL.weak (rn []) ?_ (ZgZ t 0 r1 ([]) t.fKids _ hF ([]) rfl rfl hlen36)
  exact (WS.mk (tp (tp (tc (tc (tc Zb))))) (Zf rfl (cc (cc (cc (Znm Zh)))) (Zf rfl (cc (cc (cc (cc Zh)))) Zc)))
 ·intro types_copied' types_copied_l1' Zqd ZgZ t Zfx r1 Ze7 Zce r hF
  unfold ZaJ.M
  intro ZeT Zj9 Zkd hlen36
  refine AWL.step ?_
  refine AWP.seq ?_
  refine ns ?_
  refine AWP.seq ?_
  refine nw ?_
  refine ZN Zj9 Zkd (fun x60 ZCw ZCm ZCe ZHZ => ?_) (fun ZCm => ?_)
  ·subst ZCm
   refine nw ?_
   refine AWP.seq ?_
   refine AWP.block ?_
   refine AWP.seq ?_
   refine nn ?_
   refine sr (Zab (f := Za.cells) (Za.cells_eq x60) ZCe) ?_
   refine st ?_
   obtain ⟨r69, ZD6, hF⟩ := bind_some hF
   obtain ⟨ZH0, hF⟩ := Zy hF
   refine nn ?_
   refine Or.inl (Exists.intro 5 (Exists.intro [[], [], [], [], []] (Exists.intro [([19, 20, 21, 22, 23], [], []), ([20, 21, 22, 23], [], []), ([19, 20, 21, 22, 23], [], []), ([19, 20, 22, 23], [], []), ([19, 20, 23], [], [])] (Exists.intro [19, 20, 21, 22, 23] (And.intro (by decide +kernel) ?_)))))
   refine dp ?_
   refine dp ?_
   refine dp ?_
   (refine st ?_; apply Exists.intro; apply Exists.intro; apply And.intro; (focus ((conv => whnf); refine Exists.intro [] ?_; (conv => whnf); refine And.intro rfl ?_; (conv => whnf); refine Zj.mono (Zj.weak (rn []) (Zqd x60 _ ZD6) rfl (WS.mk (Zd (Zt (lc (lc (lc (lc Zo))))) Zb) Zc)) ?_; rintro d b ⟨rfl, rfl⟩; exact And.intro rfl (And.intro rfl rfl))); apply And.intro; (focus exact rfl); (conv => whnf))
   refine de (Zbt (f := Za.cells) (ZdA (Za.cells_eq r69) (lc (lc (lc (lc Zo))))) (ZY (f := Za.cells))) ?_
   refine sa (fun l => ZbU l (fun x => Za.cells_len x)) ZH0 ?_
   refine Exists.intro _ (And.intro (WE.refl _) ?_)
   rw [← List.map_append]
   refine st ?_
   refine ns ?_
   refine AWL.weak (rn [(24, 4053)]) ?_ (ZgZ t (Zfx + 1) r1 (Ze7 ++ ([r69])) ZCw _ hF (ZeT ++ [x60]) (by rw [Zj9]; simp) (by rw [Zkd]; simp) hlen36)
   exact (WS.mk (tp (tp (tc (tc (Zd (Zr (Zdf (ZV hlen36 ZHZ))) Zb))))) (Zf rfl (cc (cc (cc (Zth rfl (WE.refl _) Zh)))) (Zf rfl (cc (cc (cc (cc Zh)))) Zc)))
  ·subst ZCm
   refine nw ?_
   refine AWP.seq ?_
   refine ns ?_
   obtain rfl := Zg hF
   refine ns ?_
   refine Exists.intro [] ?_
   refine st ?_
   exact wx (WS.mk (Zd (Zt (lc (lc (lc (lc Zo))))) Zb) Zc)
theorem Zp9 : ∀ (t : Za), ∀ r, Zcl t = some r → Zcl.M t r := Zk6.1
theorem types_copied_l1_ok : ∀ (t : Za) (Zfx : Nat) (r1 : (Zk)) (Ze7 : (List Za)) (Zce : (List Za)), ∀ r, ZaJ t Zfx r1 Ze7 Zce = some r → ZaJ.M t Zfx r1 Ze7 Zce r := Zk6.2

def Zbq (t : Za) (s : Zu) : Option (Za) :=
 some t
def Zbq.M (t : Za) (s : Zu) (r : Za) : Prop :=
 AWP Tryz.prog 30 (Code.sub (Zq Tryz.f52) [1, 1]) (Code.cont Tryz.prog 30 (Zq Tryz.f52) [1, 1] (ZbW tab Tryz.f52.results (ZbY (.agg [.v (.int .i64 r.fOp), .v (.string r.fName), .sl (r.fBound.fArgs.map Zk.cells), .sl (r.fKids.map Za.cells)]) [(1000, [(none, .rs 1001 s.flist.length), (none, .rf 1002)]), (1001, [(none, .ob 90 (s.flist.map Ze.cells))]), (1002, [(none, .ob 109 (s.fat.map (Zec c_S Zcv)))])]))) ⟨[(3, .ptr 3 0), (4, .ptr 4 0)], [(3, [(none, .v (.int .i64 t.fOp)), (none, .v (.string t.fName)), (none, .sl (t.fBound.fArgs.map Zk.cells)), (none, .sl (t.fKids.map Za.cells))]), (4, [(none, .v (.int .i64 0)), (none, .v (.string (ByteArray.mk #[]))), (none, .nils), (none, .nils)]), (1000, [(none, .rs 1001 s.flist.length), (none, .rf 1002)]), (1001, [(none, .ob 90 (s.flist.map Ze.cells))]), (1002, [(none, .ob 109 (s.fat.map (Zec c_S Zcv)))])]⟩
theorem ZfM (t : Za) (s : Zu) (r : Za) (hF : Zbq t s = some r) : Zbq.M t s r := by
 unfold Zbq at hF
 unfold Zbq.M
 refine AWP.seq ?_
 refine ns ?_
 obtain rfl := Zg hF
 refine ns ?_
 refine Exists.intro [(1000, 1000), (1001, 1001), (1002, 1002)] ?_
 refine st ?_
 exact wx (WS.mk (Zd (Zt (lc (lc (lc (lc Zo))))) Zb) (Zf rfl (Ze2 (Zaf (by first | exact rfl | simp only [List.length_set])) (cc Zh)) (Zf rfl (cc Zh) (Zf rfl (cc Zh) Zc))))

def ZaP (s : Zu) (t : Za) : Option (Za) :=
 if (t.fOp == 1) = true then
 ZeS s.fat 0 t.fName >>= fun r8 =>
 if r8.2 = true then
 (ixI s.flist r8.1) >>= fun x10 =>
 some x10.fType
 else
 Zbq t s
 else
 Zbq t s
def ZaP.M (s : Zu) (t : Za) (r : Za) : Prop :=
 Zj Tryz.prog 52 [.ptr 1000 0, .agg [.v (.int .i64 t.fOp), .v (.string t.fName), .sl (t.fBound.fArgs.map Zk.cells), .sl (t.fKids.map Za.cells)]] [(1000, [(none, .rs 1001 s.flist.length), (none, .rf 1002)]), (1001, [(none, .ob 90 (s.flist.map Ze.cells))]), (1002, [(none, .ob 109 (s.fat.map (Zec c_S Zcv)))])] (fun d b => d = .agg [.v (.int .i64 r.fOp), .v (.string r.fName), .sl (r.fBound.fArgs.map Zk.cells), .sl (r.fKids.map Za.cells)] ∧ b = [(1000, [(none, .rs 1001 s.flist.length), (none, .rf 1002)]), (1001, [(none, .ob 90 (s.flist.map Ze.cells))]), (1002, [(none, .ob 109 (s.fat.map (Zec c_S Zcv)))])])
theorem ZgQ (s : Zu) (t : Za) (r : Za) (hF : ZaP s t = some r) : ZaP.M s t r := by
 unfold ZaP at hF
 unfold ZaP.M
 refine en Tryz.func52 ?_
 refine AWP.seq ?_
 refine ns ?_
 refine AWP.seq ?_
 refine AWP.seq ?_
 refine ns ?_
 refine nw ?_
 refine Zi hF (fun hc6 hF => ?_) (fun hc6 hF => ?_)
 ·refine AWP.seq ?_
  obtain ⟨r8, hr8, hF⟩ := bind_some hF
  refine nn ?_
  refine Or.inl (Exists.intro 11 (Exists.intro [[], [], [], [], [], [], [], [], [], [], []] (Exists.intro [([11, 12, 13, 14, 15, 16, 17, 10, 18, 19, 5], [], []), ([12, 13, 14, 15, 16, 17, 10, 18, 19, 5], [], []), ([13, 14, 15, 16, 17, 10, 18, 19, 5], [], []), ([14, 15, 16, 17, 10, 18, 19, 5], [], []), ([11, 12, 13, 14, 15, 16, 17, 10, 18, 19, 5], [], []), ([11, 12, 13, 14, 16, 17, 10, 18, 19, 5], [], []), ([17, 10, 18, 19, 5], [], []), ([10, 18, 19, 5], [], []), ([18, 19, 5], [], []), ([18, 19, 5], [], []), ([19, 5], [], [])] (Exists.intro [11, 12, 13, 14, 15, 16, 17, 10, 18, 19, 5] (And.intro (by decide +kernel) ?_)))))
  refine dp ?_
  refine dp ?_
  refine dp ?_
  refine dp ?_
  refine dp ?_
  refine dp ?_
  (refine st ?_; apply Exists.intro; apply Exists.intro; apply And.intro; (focus (((repeat (first | ((conv => whnf); (with_reducible refine And.intro ?_ ?_); (focus (first | exact Eq.refl _ | exact trivial | (with_reducible assumption) | (with_reducible exact Int.natCast_nonneg _) | exact Nat.le_of_ble_eq_true (Eq.refl true) | exact Zd9 (Eq.refl _) (Eq.refl _) (Eq.refl _) | decide))))); (conv => whnf)) <;> (refine ZhG (m := s.fat) (k := t.fName) ZhN (ev := Zcv) hr8 rfl (fun x => Zne x) rfl rfl (lc Zo) ?_) <;> ((repeat (first | ((conv => whnf); (with_reducible refine And.intro ?_ ?_); (focus (first | exact Eq.refl _ | exact trivial | (with_reducible assumption) | (with_reducible exact Int.natCast_nonneg _) | exact Nat.le_of_ble_eq_true (Eq.refl true) | exact Zd9 (Eq.refl _) (Eq.refl _) (Eq.refl _) | decide))))); (conv => whnf)) <;> (exact rfl))); apply And.intro; (focus exact rfl); (conv => whnf))
  refine dp ?_
  refine dp ?_
  refine dp ?_
  refine dp ?_
  refine st ?_
  refine AWP.seq ?_
  refine ns ?_
  refine nw ?_
  refine Zi hF (fun hc9 hF => ?_) (fun hc9 hF => ?_)
  ·refine AWP.seq ?_
   obtain ⟨x10, ZGL, ZFm, hF⟩ := ZcL hF
   refine ns ?_
   refine And.intro (ZpK ZGL ZFm) ?_
   refine st ?_
   refine sr (ZbX (f := Ze.cells) (Ze.cells_eq x10) ZFm) ?_
   refine st ?_
   obtain rfl := Zg hF
   refine ns ?_
   refine Exists.intro [(1000, 1000), (1001, 1001), (1002, 1002)] ?_
   refine st ?_
   exact wx (WS.mk (Zd (Zt (lc (lc (lc (lc Zo))))) Zb) (Zf rfl (Ze2 (Zaf (by first | exact rfl | simp only [List.length_set])) (cc Zh)) (Zf rfl (cc Zh) (Zf rfl (cc Zh) Zc))))
  ·refine nw ?_
   refine AWP.weak (rn []) ?_ (ZfM t s _ hF)
   exact (WS.mk (tp (tp Zb)) (Zf rfl (cc (cc (cc (cc Zh)))) (Zf rfl (cc (cc (cc (cc Zh)))) (Zf rfl (Ze2 (Zaf (by first | exact rfl | simp only [List.length_set])) (cc Zh)) (Zf rfl (cc Zh) (Zf rfl (cc Zh) Zc))))))
 ·refine nw ?_
  refine AWP.weak (rn []) ?_ (ZfM t s _ hF)
  exact (WS.mk (tp (tp Zb)) (Zf rfl (cc (cc (cc (cc Zh)))) (Zf rfl (cc (cc (cc (cc Zh)))) (Zf rfl (Ze2 (Zaf (by first | exact rfl | simp only [List.length_set])) (cc Zh)) (Zf rfl (cc Zh) (Zf rfl (cc Zh) Zc))))))

def Za8 (s : (List Ze)) (name_ : ByteArray) (i_5 : Nat) (Zay : (List Ze)) : Option (Int) :=
 (match Zay with
 | x16 :: ZjO =>
 if (x16.fName.toList == name_.toList) = true then
 some ((i_5 : Nat) : Int)
 else
 Za8 s name_ (i_5 + 1) ZjO
 | [] =>
 some (-1))
 partial_fixpoint
def Za8.M (s : (List Ze)) (name_ : ByteArray) (i_5 : Nat) (Zay : (List Ze)) (r : Int) : Prop :=
 ∀ Zdx : List Ze, s = Zdx ++ Zay → i_5 = Zdx.length → AWL Tryz.prog 20 (Code.sub (Zq Tryz.f46) [1, 0, 1, 0, 0]) (Code.cont Tryz.prog 20 (Zq Tryz.f46) [1, 0, 1, 0] (ZbW tab Tryz.f46.results (ZbY (.c none (.v (.int .i64 r))) []))) ⟨[(0, .c none (.sl (s.map Ze.cells))), (1, .c none (.v (.string name_))), (5, .c none (.v (.int .i64 ((i_5 : Nat) : Int))))], []⟩
theorem Zmn (s : (List Ze)) (name_ : ByteArray) (i_5 : Nat) (Zay : (List Ze)) : ∀ r, Za8 s name_ i_5 Zay = some r → Za8.M s name_ i_5 Zay r := by
 refine Za8.partial_correctness s name_ (fun i_5 Zay r => Za8.M s name_ i_5 Zay r) ?_ i_5 Zay
 intro lazycref18_find_l1' Zhq i_5 Zay r hF
 have Zl8 := fun (_s : (List Ze)) (_name_ : ByteArray) (i_5 : Nat) (Zay : (List Ze)) => Zhq i_5 Zay
 clear Zhq
 unfold Za8.M
 intro Zdx Zhs ZhA
 refine AWL.step ?_
 refine AWP.seq ?_
 refine AWP.seq ?_
 refine ns ?_
 intro hlen15
 (try rw [List.length_map] at hlen15)
 (try rw [List.length_map])
 refine st ?_
 refine nw ?_
 refine ZN Zhs ZhA (fun x16 ZjO ZjP Zrd ZqM => ?_) (fun ZjP => ?_)
 ·subst ZjP
  refine nw ?_
  refine AWP.seq ?_
  refine AWP.block ?_
  refine AWP.seq ?_
  refine nn ?_
  refine sr (Zab (f := Ze.cells) (Ze.cells_eq x16) Zrd) ?_
  refine st ?_
  refine nw ?_
  refine Zi hF (fun ZtA hF => ?_) (fun ZtA hF => ?_)
  ·refine AWP.seq ?_
   refine ns ?_
   obtain rfl := Zg hF
   refine ns ?_
   refine Exists.intro [] ?_
   refine st ?_
   exact wx (WS.mk (tc Zb) Zc)
  ·refine nw ?_
   refine ns ?_
   refine AWL.weak (rn []) ?_ (Zl8 s name_ (i_5 + 1) ZjO _ hF (Zdx ++ [x16]) (by rw [Zhs]; simp) (by rw [ZhA]; simp))
   exact (WS.mk (tc (tc (Zd (Zr (Zdf (ZV hlen15 ZqM))) Zb))) Zc)
 ·subst ZjP
  refine nw ?_
  refine AWP.seq ?_
  refine ns ?_
  obtain rfl := Zg hF
  refine ns ?_
  refine Exists.intro [] ?_
  refine st ?_
  exact wx (WS.mk (tc Zb) Zc)

def Zb4 (s : (List Ze)) (name_ : ByteArray) : Option (Int) :=
 Za8 s name_ 0 s
def Zb4.M (s : (List Ze)) (name_ : ByteArray) (r : Int) : Prop :=
 Zj Tryz.prog 46 [.c none (.sl (s.map Ze.cells)), .c none (.v (.string name_))] [] (fun d b => d = .c none (.v (.int .i64 r)) ∧ b = [])
theorem ZjD (s : (List Ze)) (name_ : ByteArray) (r : Int) (hF : Zb4 s name_ = some r) : Zb4.M s name_ r := by
 unfold Zb4 at hF
 unfold Zb4.M
 refine en Tryz.func46 ?_
 refine AWP.seq ?_
 refine ns ?_
 refine AWP.seq ?_
 refine AWP.seq ?_
 refine ns ?_
 refine AWP.block ?_
 refine AWP.loop ?_
 refine AWL.weak (rn []) ?_ (Zmn s name_ 0 s _ hF ([]) rfl rfl)
 exact (WS.mk (tc (tc (tc Zb))) Zc)

def ZbT (t : Za) : Option (Za) :=
 some t
def ZbT.M (t : Za) (r : Za) : Prop :=
 AWP Tryz.prog 21 (Code.sub (Zq Tryz.f34) [1, 1]) (Code.cont Tryz.prog 21 (Zq Tryz.f34) [1, 1] (ZbW tab Tryz.f34.results (ZbY (.agg [.v (.int .i64 r.fOp), .v (.string r.fName), .sl (r.fBound.fArgs.map Zk.cells), .sl (r.fKids.map Za.cells)]) []))) ⟨[(3, .ptr 3 0), (4, .ptr 4 0)], [(3, [(none, .v (.int .i64 t.fOp)), (none, .v (.string t.fName)), (none, .sl (t.fBound.fArgs.map Zk.cells)), (none, .sl (t.fKids.map Za.cells))]), (4, [(none, .v (.int .i64 0)), (none, .v (.string (ByteArray.mk #[]))), (none, .nils), (none, .nils)])]⟩
theorem Zgo (t : Za) (r : Za) (hF : ZbT t = some r) : ZbT.M t r := by
 unfold ZbT at hF
 unfold ZbT.M
 refine AWP.seq ?_
 refine ns ?_
 obtain rfl := Zg hF
 refine ns ?_
 refine Exists.intro [] ?_
 refine st ?_
 exact wx (WS.mk (Zd (Zt (lc (lc (lc (lc Zo))))) Zb) Zc)

def Zbd (s : (List Ze)) (t : Za) : Option (Za) :=
 if (t.fOp == 1) = true then
 Zb4 s t.fName >>= fun r6 =>
 if (decide (r6 ≥ 0)) = true then
 (ixI s r6) >>= fun x8 =>
 some x8.fType
 else
 ZbT t
 else
 ZbT t
def Zbd.M (s : (List Ze)) (t : Za) (r : Za) : Prop :=
 Zj Tryz.prog 34 [.c none (.sl (s.map Ze.cells)), .agg [.v (.int .i64 t.fOp), .v (.string t.fName), .sl (t.fBound.fArgs.map Zk.cells), .sl (t.fKids.map Za.cells)]] [] (fun d b => d = .agg [.v (.int .i64 r.fOp), .v (.string r.fName), .sl (r.fBound.fArgs.map Zk.cells), .sl (r.fKids.map Za.cells)] ∧ b = [])
theorem ZhP (s : (List Ze)) (t : Za) (r : Za) (hF : Zbd s t = some r) : Zbd.M s t r := by
 unfold Zbd at hF
 unfold Zbd.M
 refine en Tryz.func34 ?_
 refine AWP.seq ?_
 refine ns ?_
 refine AWP.seq ?_
 refine AWP.seq ?_
 refine ns ?_
 refine nw ?_
 refine Zi hF (fun hc5 hF => ?_) (fun hc5 hF => ?_)
 ·refine AWP.seq ?_
  obtain ⟨r6, hr6, hF⟩ := bind_some hF
  refine ns ?_
  refine e3 ?_
  refine st ?_
  refine cm (Zj.weak (rn []) (ZjD s t.fName _ hr6) rfl (WS.mk (tc (tc Zb)) Zc)) ?_
  refine st ?_
  refine AWP.seq ?_
  refine ns ?_
  refine nw ?_
  refine Zi hF (fun hc7 hF => ?_) (fun hc7 hF => ?_)
  ·refine AWP.seq ?_
   obtain ⟨x8, hx80, hx8, hF⟩ := ZcL hF
   refine nn ?_
   refine sr (ZbX (f := Ze.cells) (Ze.cells_eq x8) hx8) ?_
   refine st ?_
   obtain rfl := Zg hF
   refine ns ?_
   refine Exists.intro [] ?_
   refine st ?_
   exact wx (WS.mk (Zd (Zt (lc (lc (lc (lc Zo))))) Zb) Zc)
  ·refine nw ?_
   refine AWP.weak (rn []) ?_ (Zgo t _ hF)
   exact (WS.mk (tp (tp Zb)) (Zf rfl (cc (cc (cc (cc Zh)))) (Zf rfl (cc (cc (cc (cc Zh)))) Zc)))
 ·refine nw ?_
  refine AWP.weak (rn []) ?_ (Zgo t _ hF)
  exact (WS.mk (tp (tp Zb)) (Zf rfl (cc (cc (cc (cc Zh)))) (Zf rfl (cc (cc (cc (cc Zh)))) Zc)))

def ZaA (s : (List ByteArray)) (v : ByteArray) (x_8 : Nat) (Zbz : (List ByteArray)) : Option (Int) :=
 (match Zbz with
 | x11 :: Zlo =>
 if (v.toList == x11.toList) = true then
 some ((x_8 : Nat) : Int)
 else
 ZaA s v (x_8 + 1) Zlo
 | [] =>
 some (-1))
 partial_fixpoint
def ZaA.M (s : (List ByteArray)) (v : ByteArray) (x_8 : Nat) (Zbz : (List ByteArray)) (r : Int) : Prop :=
 ∀ Zej : List ByteArray, s = Zej ++ Zbz → x_8 = Zej.length → s.length ≤ maxLen → AWL Tryz.prog 19 (Code.sub (Zq Tryz.f123) [1, 0, 1, 0, 0]) (Code.cont Tryz.prog 19 (Zq Tryz.f123) [1, 0, 1, 0] (ZbW tab Tryz.f123.results (ZbY (.c none (.v (.int .i64 r))) []))) ⟨[(0, .c none (.sl (s.map c_S))), (1, .c none (.v (.string v))), (7, .c none (.v (.int .i64 ((s.length : Nat) : Int)))), (8, .c none (.v (.int .i64 ((x_8 : Nat) : Int))))], []⟩
theorem Zj1 (s : (List ByteArray)) (v : ByteArray) (x_8 : Nat) (Zbz : (List ByteArray)) : ∀ r, ZaA s v x_8 Zbz = some r → ZaA.M s v x_8 Zbz r := by
 refine ZaA.partial_correctness s v (fun x_8 Zbz r => ZaA.M s v x_8 Zbz r) ?_ x_8 Zbz
 intro slices_Index_string_l1' Zgb x_8 Zbz r hF
 have Zj3 := fun (_s : (List ByteArray)) (_v : ByteArray) (x_8 : Nat) (Zbz : (List ByteArray)) => Zgb x_8 Zbz
 clear Zgb
 unfold ZaA.M
 intro Zej Zjw ZjT hlen1
 refine AWL.step ?_
 refine AWP.seq ?_
 refine ns ?_
 refine AWP.seq ?_
 refine nw ?_
 refine ZN Zjw ZjT (fun x11 Zlo Zlz ZtP ZtL => ?_) (fun Zlz => ?_)
 ·subst Zlz
  refine nw ?_
  refine AWP.seq ?_
  refine AWP.block ?_
  refine AWP.seq ?_
  refine ns ?_
  refine AWP.seq ?_
  refine nn ?_
  refine sr (Zab (f := c_S) rfl ZtP) ?_
  refine st ?_
  refine nw ?_
  refine Zi hF (fun Zdl hF => ?_) (fun Zdl hF => ?_)
  ·refine AWP.seq ?_
   refine ns ?_
   obtain rfl := Zg hF
   refine ns ?_
   refine Exists.intro [] ?_
   refine st ?_
   exact wx (WS.mk (tc Zb) Zc)
  ·refine nw ?_
   refine ns ?_
   refine AWL.weak (rn []) ?_ (Zj3 s v (x_8 + 1) Zlo _ hF (Zej ++ [x11]) (by rw [Zjw]; simp) (by rw [ZjT]; simp) hlen1)
   exact (WS.mk (tc (tc (tc (Zd (Zr (Zdf (ZV hlen1 ZtL))) Zb)))) Zc)
 ·subst Zlz
  refine nw ?_
  refine AWP.seq ?_
  refine ns ?_
  obtain rfl := Zg hF
  refine ns ?_
  refine Exists.intro [] ?_
  refine st ?_
  exact wx (WS.mk (tc Zb) Zc)

def Zda (s : (List ByteArray)) (v : ByteArray) : Option (Int) :=
 ZaA s v 0 s
def Zda.M (s : (List ByteArray)) (v : ByteArray) (r : Int) : Prop :=
 Zj Tryz.prog 123 [.c none (.sl (s.map c_S)), .c none (.v (.string v))] [] (fun d b => d = .c none (.v (.int .i64 r)) ∧ b = [])
theorem Zlq (s : (List ByteArray)) (v : ByteArray) (r : Int) (hF : Zda s v = some r) : Zda.M s v r := by
 unfold Zda at hF
 unfold Zda.M
 refine en Tryz.func123 ?_
 refine AWP.seq ?_
 refine ns ?_
 refine AWP.seq ?_
 refine AWP.seq ?_
 refine ns ?_
 intro hlen1
 (try rw [List.length_map] at hlen1)
 (try rw [List.length_map])
 refine st ?_
 refine AWP.block ?_
 refine AWP.loop ?_
 refine AWL.weak (rn []) ?_ (Zj1 s v 0 s _ hF ([]) rfl rfl hlen1)
 exact (WS.mk (tc (tc (tc (tc Zb)))) Zc)

def Zas (s : (List ByteArray)) (v : ByteArray) : Option (Bool) :=
 Zda s v >>= fun r1 =>
 some (decide (r1 ≥ 0))
def Zas.M (s : (List ByteArray)) (v : ByteArray) (r : Bool) : Prop :=
 Zj Tryz.prog 97 [.c none (.sl (s.map c_S)), .c none (.v (.string v))] [] (fun d b => d = .c none (.v (.bool r)) ∧ b = [])
theorem ZeK (s : (List ByteArray)) (v : ByteArray) (r : Bool) (hF : Zas s v = some r) : Zas.M s v r := by
 unfold Zas at hF
 unfold Zas.M
 refine en Tryz.func97 ?_
 refine AWP.seq ?_
 refine ns ?_
 refine AWP.seq ?_
 obtain ⟨r1, hr1, hF⟩ := bind_some hF
 refine ns ?_
 refine e3 ?_
 refine st ?_
 refine cm (Zj.weak (rn []) (Zlq s v _ hr1) rfl (WS.mk (tc (tc Zb)) Zc)) ?_
 refine st ?_
 obtain rfl := Zg hF
 refine ns ?_
 refine Exists.intro [] ?_
 refine st ?_
 exact wx (WS.mk (tc Zb) Zc)

mutual
def Zc8 (l : (List ByteArray)) (Z3 : (List ByteArray)) (t : Za) : Option ((List ByteArray)) :=
 if (t.fOp == 1) = true then
 Zas Z3 t.fName >>= fun r27 =>
 (if (!r27) = true then Zas l t.fName >>= fun r28 =>
 some (!r28) else some false) >>= fun c29 =>
 if c29 = true then
 Z5 ((l.length + ([t.fName]).length) * 16 ≤ 140737488355328) >>= fun _ =>
 Zbr (l ++ ([t.fName])) Z3 t
 else
 Zbr l Z3 t
 else
 if (t.fOp == 4) = true then
 ZdH Z3 >>= fun r36 =>
 Z5 ((r36.length + ([t.fName]).length) * 16 ≤ 140737488355328) >>= fun _ =>
 Zbr l (r36 ++ ([t.fName])) t
 else
 Zbr l Z3 t
 partial_fixpoint
def Zbr (l_0 : (List ByteArray)) (ZA : (List ByteArray)) (t : Za) : Option ((List ByteArray)) :=
 Zbm l_0 ZA t 0 t.fKids
 partial_fixpoint
def Zbm (l_0 : (List ByteArray)) (ZA : (List ByteArray)) (t : Za) (Zlj : Nat) (Ziq : (List Za)) : Option ((List ByteArray)) :=
 (match Ziq with
 | x22 :: Zwb =>
 Zc8 l_0 ZA x22 >>= fun r25 =>
 Zbm r25 ZA t (Zlj + 1) Zwb
 | [] =>
 some l_0)
 partial_fixpoint
end
def Zc8.M (l : (List ByteArray)) (Z3 : (List ByteArray)) (t : Za) (r : (List ByteArray)) : Prop :=
 Zj Tryz.prog 96 [.c (some (0, 9)) (.sl (l.map c_S)), .c none (.sl (Z3.map c_S)), .agg [.v (.int .i64 t.fOp), .v (.string t.fName), .sl (t.fBound.fArgs.map Zk.cells), .sl (t.fKids.map Za.cells)]] [] (fun d b => d = .c (some (0, 9)) (.sl (r.map c_S)) ∧ b = [])
def Zbr.M (l_0 : (List ByteArray)) (ZA : (List ByteArray)) (t : Za) (r : (List ByteArray)) : Prop :=
 AWP Tryz.prog 51 (Code.sub (Zq Tryz.f96) [1, 1]) (Code.cont Tryz.prog 51 (Zq Tryz.f96) [1, 1] (ZbW tab Tryz.f96.results (ZbY (.c (some (0, 9)) (.sl (r.map c_S))) []))) ⟨[(0, .c (some (0, 9)) (.sl (l_0.map c_S))), (1, .c none (.sl (ZA.map c_S))), (5, .ptr 5 0)], [(5, [(none, .v (.int .i64 t.fOp)), (none, .v (.string t.fName)), (none, .sl (t.fBound.fArgs.map Zk.cells)), (none, .sl (t.fKids.map Za.cells))])]⟩
def Zbm.M (l_0 : (List ByteArray)) (ZA : (List ByteArray)) (t : Za) (Zlj : Nat) (Ziq : (List Za)) (r : (List ByteArray)) : Prop :=
 ∀ Zo5 : List Za, t.fKids = Zo5 ++ Ziq → Zlj = Zo5.length → t.fKids.length ≤ maxLen → AWL Tryz.prog 51 (Code.sub (Zq Tryz.f96) [1, 1, 0, 1, 0, 0]) (Code.cont Tryz.prog 51 (Zq Tryz.f96) [1, 1, 0, 1, 0] (ZbW tab Tryz.f96.results (ZbY (.c (some (0, 9)) (.sl (r.map c_S))) []))) ⟨[(0, .c (some (0, 9)) (.sl (l_0.map c_S))), (1, .c none (.sl (ZA.map c_S))), (39, .c none (.sl (t.fKids.map Za.cells))), (40, .c none (.v (.int .i64 ((t.fKids.length : Nat) : Int)))), (41, .c none (.v (.int .i64 ((Zlj : Nat) : Int))))], []⟩
theorem ZjG : (∀ (l : (List ByteArray)) (Z3 : (List ByteArray)) (t : Za), ∀ r, Zc8 l Z3 t = some r → Zc8.M l Z3 t r) ∧ (∀ (l_0 : (List ByteArray)) (ZA : (List ByteArray)) (t : Za), ∀ r, Zbr l_0 ZA t = some r → Zbr.M l_0 ZA t r) ∧ (∀ (l_0 : (List ByteArray)) (ZA : (List ByteArray)) (t : Za) (Zlj : Nat) (Ziq : (List Za)), ∀ r, Zbm l_0 ZA t Zlj Ziq = some r → Zbm.M l_0 ZA t Zlj Ziq r) := by
 refine Zc8.mutual_partial_correctness Zc8.M Zbr.M Zbm.M ?_ ?_ ?_
 ·intro types_free_k1' Zgi l Z3 t r hF
  unfold Zc8.M
  refine en Tryz.func96 ?_
  refine AWP.seq ?_
  refine ns ?_
  refine AWP.seq ?_
  refine AWP.seq ?_
  refine ns ?_
  refine AWP.block ?_
  refine AWP.seq ?_
  refine ns ?_
  refine nw ?_
  refine Zi hF (fun ZlJ hF => ?_) (fun ZlJ hF => ?_)
  ·refine AWP.seq ?_
   obtain ⟨r27, ZG1, hF⟩ := bind_some hF
   obtain ⟨c29, ZoB, hF⟩ := bind_some hF
   refine AWP.cutN (fun T => ∃ r, WS r T ⟨[(0, .c (some (0, 9)) (.sl (l.map c_S))), (1, .c none (.sl (Z3.map c_S))), (5, .ptr 5 0), (24, .c none (.v (.bool c29)))], [(5, [(none, .v (.int .i64 t.fOp)), (none, .v (.string t.fName)), (none, .sl (t.fBound.fArgs.map Zk.cells)), (none, .sl (t.fKids.map Za.cells))])]⟩) ?_ (fun T hw => ?_)
   ·refine ns ?_
    refine e3 ?_
    refine st ?_
    refine cm (Zj.weak (rn []) (ZeK Z3 t.fName _ ZG1) rfl (WS.mk (tc (tc Zb)) Zc)) ?_
    refine st ?_
    refine Zm true (fun Zpf => ?_) (fun Zpf => ?_)
    ·have ZoB := ift Zpf ZoB
     obtain ⟨r28, ZDD, ZoB⟩ := bind_some ZoB
     (conv => whnf)
     refine st ?_
     refine Exists.intro [0] (Exists.intro [] (Exists.intro [] ?_))
     refine st ?_
     refine cm (Zj.weak (rn []) (ZeK l t.fName _ ZDD) rfl (WS.mk (tc (tc Zb)) Zc)) ?_
     refine st ?_
     obtain rfl := Zg ZoB
     refine st ?_
     exact Exists.intro (rn [(0, 0)]) (WS.mk (Zd (Zam rfl (WE.refl _)) (tc (tp (Zd (Zr (web Zpf)) Zb)))) (Zf rfl (cc (cc (cc (cc Zh)))) Zc))
    ·have ZoB := ife Zpf ZoB
     (conv => whnf)
     obtain rfl := Zg ZoB
     refine st ?_
     exact Exists.intro (rn [(0, 0)]) (WS.mk (Zd (Zam rfl (WE.refl _)) (tc (tp (Zd (Zr (web Zpf)) Zb)))) (Zf rfl (cc (cc (cc (cc Zh)))) Zc))
   obtain ⟨r0, hw⟩ := hw
   (conv => whnf)
   refine AWP.weak r0 hw ?_
   refine nw ?_
   refine Zi hF (fun Zzf hF => ?_) (fun Zzf hF => ?_)
   ·obtain ⟨ZDu, hF⟩ := Zy hF
    refine ns ?_
    refine Exists.intro _ (And.intro (Zbt (f := c_S) (lc Zo) (ZY (f := c_S))) ?_)
    refine sa (fun l => ZbU l (fun x => ZfO x)) ZDu ?_
    refine Exists.intro _ (And.intro (WE.refl _) ?_)
    rw [← List.map_append]
    refine st ?_
    refine AWP.weak (rn [(29, 0)]) ?_ (Zgi (l ++ ([t.fName])) Z3 t _ hF)
    exact (WS.mk (Zd (Zam rfl (WE.refl _)) (tc (tp Zb))) (Zf rfl (cc (cc (cc (cc Zh)))) Zc))
   ·refine nw ?_
    refine AWP.weak (rn [(0, 0)]) ?_ (Zgi l Z3 t _ hF)
    exact (WS.mk (Zd (Zam rfl (WE.refl _)) (tc (tp Zb))) (Zf rfl (cc (cc (cc (cc Zh)))) Zc))
  ·refine AWP.seq ?_
   refine ns ?_
   refine nw ?_
   refine Zi hF (fun Zpk hF => ?_) (fun Zpk hF => ?_)
   ·obtain ⟨r36, ZIo, hF⟩ := bind_some hF
    obtain ⟨ZGZ, hF⟩ := Zy hF
    refine nn ?_
    refine Or.inr (Exists.intro [2, 3, 4] (Exists.intro [[34, 35, 36], [35, 36], [36]] (Exists.intro [5] (Exists.intro [5, 34, 35, 36] (Exists.intro [34, 35, 36] (Exists.intro [0, 1, 5, 6] (And.intro (by decide +kernel) ?_)))))))
    refine dp ?_
    refine dp ?_
    refine de (Zbt (f := c_S) (lc Zo) (ZY (f := c_S))) ?_
    refine st ?_
    refine e3 ?_
    refine st ?_
    refine cm (Zj.weak (rn []) (Zlk Z3 _ ZIo) rfl (WS.mk (tc Zb) Zc)) ?_
    refine st ?_
    refine sa (fun l => ZbU l (fun x => ZfO x)) ZGZ ?_
    refine Exists.intro _ (And.intro (WE.refl _) ?_)
    rw [← List.map_append]
    refine st ?_
    refine AWP.weak (rn [(0, 0)]) ?_ (Zgi l (r36 ++ ([t.fName])) t _ hF)
    exact (WS.mk (Zd (Zam rfl (WE.refl _)) (tc (tp Zb))) (Zf rfl (cc (cc (cc (cc Zh)))) Zc))
   ·refine nw ?_
    refine AWP.weak (rn [(0, 0)]) ?_ (Zgi l Z3 t _ hF)
    exact (WS.mk (Zd (Zam rfl (WE.refl _)) (tc (tp Zb))) (Zf rfl (cc (cc (cc (cc Zh)))) Zc))
 ·intro types_free_l2' Zig l_0 ZA t r hF
  unfold Zbr.M
  refine AWP.seq ?_
  refine AWP.seq ?_
  refine ns ?_
  intro hlen12
  (try rw [List.length_map] at hlen12)
  (try rw [List.length_map])
  refine st ?_
  refine AWP.block ?_
  refine AWP.loop ?_
  refine AWL.weak (rn [(0, 0)]) ?_ (Zig l_0 ZA t 0 t.fKids _ hF ([]) rfl rfl hlen12)
  exact (WS.mk (Zd (Zam rfl (WE.refl _)) (tc (tc (tc (tc Zb))))) Zc)
 ·intro types_free' types_free_l2' Zr8 Zig l_0 ZA t Zlj Ziq r hF
  unfold Zbm.M
  intro Zo5 Zxs Zw4 hlen12
  refine AWL.step ?_
  refine AWP.seq ?_
  refine ns ?_
  refine AWP.seq ?_
  refine nw ?_
  refine ZN Zxs Zw4 (fun x22 Zwb ZvZ ZBc ZDZ => ?_) (fun ZvZ => ?_)
  ·subst ZvZ
   refine nw ?_
   refine AWP.seq ?_
   refine AWP.block ?_
   refine AWP.seq ?_
   refine nn ?_
   refine sr (Zab (f := Za.cells) (Za.cells_eq x22) ZBc) ?_
   refine st ?_
   obtain ⟨r25, ZD9, hF⟩ := bind_some hF
   refine ns ?_
   refine e3 ?_
   refine st ?_
   refine cm (Zj.weak (rn [(0, 0)]) (Zr8 l_0 ZA x22 _ ZD9) rfl (WS.mk (Zd (Zam rfl (WE.refl _)) (tc (Zd (Zt (lc (lc (lc (lc Zo))))) Zb))) Zc)) ?_
   refine st ?_
   refine ns ?_
   refine AWL.weak (rn [(48, 0)]) ?_ (Zig r25 ZA t (Zlj + 1) Zwb _ hF (Zo5 ++ [x22]) (by rw [Zxs]; simp) (by rw [Zw4]; simp) hlen12)
   exact (WS.mk (Zd (Zam rfl (WE.refl _)) (tc (tc (tc (Zd (Zr (Zdf (ZV hlen12 ZDZ))) Zb))))) Zc)
  ·subst ZvZ
   refine nw ?_
   refine AWP.seq ?_
   refine ns ?_
   obtain rfl := Zg hF
   refine ns ?_
   refine Exists.intro [] ?_
   refine st ?_
   exact Exists.intro (rn [(0, 0)]) (WS.mk (Zd (Zam rfl (WE.refl _)) Zb) Zc)
theorem Zky : ∀ (l : (List ByteArray)) (Z3 : (List ByteArray)) (t : Za), ∀ r, Zc8 l Z3 t = some r → Zc8.M l Z3 t r := ZjG.1
theorem types_free_k1_ok : ∀ (l_0 : (List ByteArray)) (ZA : (List ByteArray)) (t : Za), ∀ r, Zbr l_0 ZA t = some r → Zbr.M l_0 ZA t r := ZjG.2.1
theorem types_free_l2_ok : ∀ (l_0 : (List ByteArray)) (ZA : (List ByteArray)) (t : Za) (Zlj : Nat) (Ziq : (List Za)), ∀ r, Zbm l_0 ZA t Zlj Ziq = some r → Zbm.M l_0 ZA t Zlj Ziq r := ZjG.2.2

def ZeY (t : Za) : Option ((List ByteArray)) :=
 Zcj t >>= fun r3 =>
 if (r3 != 0) = true then
 some ([] : List ByteArray)
 else
 Zc8 ([] : List ByteArray) ([] : List ByteArray) t >>= fun r5 =>
 some r5
def ZeY.M (t : Za) (r : (List ByteArray)) : Prop :=
 Zj Tryz.prog 105 [.agg [.v (.int .i64 t.fOp), .v (.string t.fName), .sl (t.fBound.fArgs.map Zk.cells), .sl (t.fKids.map Za.cells)]] [] (fun d b => d = .c (some (0, 9)) (.sl (r.map c_S)) ∧ b = [])
theorem ZnW (t : Za) (r : (List ByteArray)) (hF : ZeY t = some r) : ZeY.M t r := by
 unfold ZeY at hF
 unfold ZeY.M
 refine en Tryz.func105 ?_
 refine AWP.seq ?_
 refine ns ?_
 refine AWP.seq ?_
 refine AWP.seq ?_
 obtain ⟨r3, hr3, hF⟩ := bind_some hF
 refine ns ?_
 refine e3 ?_
 refine st ?_
 refine cm (Zj.weak (rn []) (Zfe t _ hr3) rfl (WS.mk (Zd (Zt (lc (lc (lc (lc Zo))))) Zb) Zc)) ?_
 refine st ?_
 refine nw ?_
 refine Zi hF (fun hc4 hF => ?_) (fun hc4 hF => ?_)
 ·refine AWP.seq ?_
  refine ns ?_
  obtain rfl := Zg hF
  refine ns ?_
  refine Exists.intro [] ?_
  refine st ?_
  exact wx (WS.mk (Zd ZjI Zb) Zc)
 ·refine nw ?_
  refine AWP.seq ?_
  obtain ⟨r5, hr5, hF⟩ := bind_some hF
  refine ns ?_
  refine e3 ?_
  refine st ?_
  refine cm (Zj.weak (rn []) (Zky ([] : List ByteArray) ([] : List ByteArray) t _ hr5) rfl (WS.mk (Zd ZjI (Zd (Zr WE.nil) (Zd (Zt (lc (lc (lc (lc Zo))))) Zb))) Zc)) ?_
  refine st ?_
  obtain rfl := Zg hF
  refine ns ?_
  refine Exists.intro [] ?_
  refine st ?_
  exact Exists.intro (rn [(7, 0)]) (WS.mk (Zd (Zam rfl (WE.refl _)) Zb) Zc)

def ZaE (v : ByteArray) (r1 : ((List ByteArray))) (Zol : Nat) (s : Zu) (ZgW : (List ByteArray)) : Option (Bool) :=
 (match ZgW with
 | x26 :: ZEk =>
 if (x26.toList == v.toList) = true then
 some true
 else
 ZeS s.fat 0 x26 >>= fun r31 =>
 (if r31.2 = true then (ixI s.flist r31.1) >>= fun x32 =>
 ZeY x32.fType >>= fun r33 =>
 Zas r33 v >>= fun r34 =>
 some r34 else some false) >>= fun c35 =>
 if c35 = true then
 some true
 else
 ZaE v r1 (Zol + 1) s ZEk
 | [] =>
 some false)
 partial_fixpoint
def ZaE.M (v : ByteArray) (r1 : ((List ByteArray))) (Zol : Nat) (s : Zu) (ZgW : (List ByteArray)) (r : Bool) : Prop :=
 ∀ ZoI : List ByteArray, r1 = ZoI ++ ZgW → Zol = ZoI.length → r1.length ≤ maxLen → AWL Tryz.prog 45 (Code.sub (Zq Tryz.f80) [1, 0, 1, 0, 0]) (Code.cont Tryz.prog 45 (Zq Tryz.f80) [1, 0, 1, 0] (ZbW tab Tryz.f80.results (ZbY (.c none (.v (.bool r))) [(1000, [(none, .rs 1001 s.flist.length), (none, .rf 1002)]), (1001, [(none, .ob 90 (s.flist.map Ze.cells))]), (1002, [(none, .ob 109 (s.fat.map (Zec c_S Zcv)))])]))) ⟨[(0, .ptr 1000 0), (1, .c none (.v (.string v))), (12, .c (some (12, 9)) (.sl (r1.map c_S))), (13, .c none (.v (.int .i64 ((r1.length : Nat) : Int)))), (14, .c none (.v (.int .i64 ((Zol : Nat) : Int))))], [(1000, [(none, .rs 1001 s.flist.length), (none, .rf 1002)]), (1001, [(none, .ob 90 (s.flist.map Ze.cells))]), (1002, [(none, .ob 109 (s.fat.map (Zec c_S Zcv)))])]⟩
theorem Zj4 (v : ByteArray) (r1 : ((List ByteArray))) (Zol : Nat) (s : Zu) (ZgW : (List ByteArray)) : ∀ r, ZaE v r1 Zol s ZgW = some r → ZaE.M v r1 Zol s ZgW r := by
 refine ZaE.partial_correctness v r1 s (fun Zol ZgW r => ZaE.M v r1 Zol s ZgW r) ?_ Zol ZgW
 intro unify_solver_occurs_l1' ZfT Zol ZgW r hF
 have ZjY := fun (_v : ByteArray) (_r1 : ((List ByteArray))) (Zol : Nat) (_s : Zu) (ZgW : (List ByteArray)) => ZfT Zol ZgW
 clear ZfT
 unfold ZaE.M
 intro ZoI Zw5 Zxw hlen2
 refine AWL.step ?_
 refine AWP.seq ?_
 refine ns ?_
 refine AWP.seq ?_
 refine nw ?_
 refine ZN Zw5 Zxw (fun x26 ZEk ZEh ZGP ZIE => ?_) (fun ZEh => ?_)
 ·subst ZEh
  refine nw ?_
  refine AWP.seq ?_
  refine AWP.block ?_
  refine AWP.seq ?_
  refine nn ?_
  refine sr (Zab (f := c_S) rfl ZGP) ?_
  refine st ?_
  refine AWP.seq ?_
  refine AWP.seq ?_
  refine ns ?_
  refine nw ?_
  refine Zi hF (fun Zpf hF => ?_) (fun Zpf hF => ?_)
  ·refine AWP.seq ?_
   refine ns ?_
   obtain rfl := Zg hF
   refine ns ?_
   refine Exists.intro [(1000, 1000), (1001, 1001), (1002, 1002)] ?_
   refine st ?_
   exact wx (WS.mk (tc Zb) (Zf rfl (Ze2 (Zaf (by first | exact rfl | simp only [List.length_set])) (cc Zh)) (Zf rfl (cc Zh) (Zf rfl (cc Zh) Zc))))
  ·refine nw ?_
   refine AWP.seq ?_
   obtain ⟨r31, ZD3, hF⟩ := bind_some hF
   refine ns ?_
   refine ZhG (m := s.fat) (k := x26) ZhN (ev := Zcv) ZD3 rfl (fun x => Zne x) rfl rfl (lc Zo) ?_
   refine st ?_
   refine AWP.seq ?_
   obtain ⟨c35, ZnC, hF⟩ := bind_some hF
   refine AWP.cutN (fun T => ∃ r, WS r T ⟨[(0, .ptr 1000 0), (1, .c none (.v (.string v))), (12, .c (some (12, 9)) (.sl (r1.map c_S))), (13, .c none (.v (.int .i64 ((r1.length : Nat) : Int)))), (14, .c none (.v (.int .i64 ((Zol : Nat) : Int)))), (43, .c none (.v (.bool c35)))], [(1000, [(none, .rs 1001 s.flist.length), (none, .rf 1002)]), (1001, [(none, .ob 90 (s.flist.map Ze.cells))]), (1002, [(none, .ob 109 (s.fat.map (Zec c_S Zcv)))])]⟩) ?_ (fun T hw => ?_)
   ·refine ns ?_
    refine Zm true (fun ZkV => ?_) (fun ZkV => ?_)
    ·have ZnC := ift ZkV ZnC
     obtain ⟨x32, ZGo, ZFI, ZnC⟩ := ZcL ZnC
     obtain ⟨r33, ZHj, ZnC⟩ := bind_some ZnC
     obtain ⟨r34, ZCA, ZnC⟩ := bind_some ZnC
     (conv => whnf)
     refine st ?_
     refine And.intro (ZpK ZGo ZFI) ?_
     refine st ?_
     refine sr (ZbX (f := Ze.cells) (Ze.cells_eq x32) ZFI) ?_
     refine st ?_
     refine e3 ?_
     refine st ?_
     refine cm (Zj.weak (rn []) (ZnW x32.fType _ ZHj) rfl (WS.mk (Zd (Zt (lc (lc (lc (lc Zo))))) Zb) Zc)) ?_
     refine st ?_
     refine Exists.intro [40] (Exists.intro [] (Exists.intro [] ?_))
     refine st ?_
     refine cm (Zj.weak (rn []) (ZeK r33 v _ ZCA) rfl (WS.mk (tc (tc Zb)) Zc)) ?_
     refine st ?_
     obtain rfl := Zg ZnC
     refine st ?_
     exact Exists.intro (rn [(12, 12)]) (WS.mk (tp (tc (Zd (Zam rfl (WE.refl _)) (tc (tc (Zd (Zr (web ZkV)) Zb)))))) (Zf rfl (Ze2 (Zaf (by first | exact rfl | simp only [List.length_set])) (cc Zh)) (Zf rfl (cc Zh) (Zf rfl (cc Zh) Zc))))
    ·have ZnC := ife ZkV ZnC
     (conv => whnf)
     obtain rfl := Zg ZnC
     refine st ?_
     exact Exists.intro (rn [(12, 12)]) (WS.mk (tp (tc (Zd (Zam rfl (WE.refl _)) (tc (tc (Zd (Zr (web ZkV)) Zb)))))) (Zf rfl (Ze2 (Zaf (by first | exact rfl | simp only [List.length_set])) (cc Zh)) (Zf rfl (cc Zh) (Zf rfl (cc Zh) Zc))))
   obtain ⟨r0, hw⟩ := hw
   (conv => whnf)
   refine AWP.weak r0 hw ?_
   refine nw ?_
   refine Zi hF (fun Zpr hF => ?_) (fun Zpr hF => ?_)
   ·refine AWP.seq ?_
    refine ns ?_
    obtain rfl := Zg hF
    refine ns ?_
    refine Exists.intro [(1000, 1000), (1001, 1001), (1002, 1002)] ?_
    refine st ?_
    exact wx (WS.mk (tc Zb) (Zf rfl (Ze2 (Zaf (by first | exact rfl | simp only [List.length_set])) (cc Zh)) (Zf rfl (cc Zh) (Zf rfl (cc Zh) Zc))))
   ·refine nw ?_
    refine ns ?_
    refine AWL.weak (rn [(12, 12)]) ?_ (ZjY v r1 (Zol + 1) s ZEk _ hF (ZoI ++ [x26]) (by rw [Zw5]; simp) (by rw [Zxw]; simp) hlen2)
    exact (WS.mk (tp (tc (Zd (Zam rfl (WE.refl _)) (tc (Zd (Zr (Zdf (ZV hlen2 ZIE))) Zb))))) (Zf rfl (Ze2 (Zaf (by first | exact rfl | simp only [List.length_set])) (cc Zh)) (Zf rfl (cc Zh) (Zf rfl (cc Zh) Zc))))
 ·subst ZEh
  refine nw ?_
  refine AWP.seq ?_
  refine ns ?_
  obtain rfl := Zg hF
  refine ns ?_
  refine Exists.intro [(1000, 1000), (1001, 1001), (1002, 1002)] ?_
  refine st ?_
  exact wx (WS.mk (tc Zb) (Zf rfl (Ze2 (Zaf (by first | exact rfl | simp only [List.length_set])) (cc Zh)) (Zf rfl (cc Zh) (Zf rfl (cc Zh) Zc))))

def ZcC (s : Zu) (v : ByteArray) (t : Za) : Option (Bool) :=
 ZeY t >>= fun r1 =>
 ZaE v r1 0 s r1
def ZcC.M (s : Zu) (v : ByteArray) (t : Za) (r : Bool) : Prop :=
 Zj Tryz.prog 80 [.ptr 1000 0, .c none (.v (.string v)), .agg [.v (.int .i64 t.fOp), .v (.string t.fName), .sl (t.fBound.fArgs.map Zk.cells), .sl (t.fKids.map Za.cells)]] [(1000, [(none, .rs 1001 s.flist.length), (none, .rf 1002)]), (1001, [(none, .ob 90 (s.flist.map Ze.cells))]), (1002, [(none, .ob 109 (s.fat.map (Zec c_S Zcv)))])] (fun d b => d = .c none (.v (.bool r)) ∧ b = [(1000, [(none, .rs 1001 s.flist.length), (none, .rf 1002)]), (1001, [(none, .ob 90 (s.flist.map Ze.cells))]), (1002, [(none, .ob 109 (s.fat.map (Zec c_S Zcv)))])])
theorem ZlF (s : Zu) (v : ByteArray) (t : Za) (r : Bool) (hF : ZcC s v t = some r) : ZcC.M s v t r := by
 unfold ZcC at hF
 unfold ZcC.M
 refine en Tryz.func80 ?_
 refine AWP.seq ?_
 refine ns ?_
 refine AWP.seq ?_
 refine AWP.seq ?_
 obtain ⟨r1, hr1, hF⟩ := bind_some hF
 refine ns ?_
 refine e3 ?_
 refine st ?_
 refine cm (Zj.weak (rn []) (ZnW t _ hr1) rfl (WS.mk (Zd (Zt (lc (lc (lc (lc Zo))))) Zb) Zc)) ?_
 refine st ?_
 intro hlen2
 (try rw [List.length_map] at hlen2)
 (try rw [List.length_map])
 refine st ?_
 refine AWP.block ?_
 refine AWP.loop ?_
 refine AWL.weak (rn [(12, 12)]) ?_ (Zj4 v r1 0 s r1 _ hF ([]) rfl rfl hlen2)
 exact (WS.mk (tp (tc (Zd (Zam rfl (WE.refl _)) (tc (tc Zb))))) (Zf rfl (Ze2 (Zaf (by first | exact rfl | simp only [List.length_set])) (cc Zh)) (Zf rfl (cc Zh) (Zf rfl (cc Zh) Zc))))

mutual
def Z2 (s : (List Ze)) (name_ : ByteArray) (t : Za) : Option (Bool) :=
 if (t.fOp == 1) = true then
 Zb4 s t.fName >>= fun r15 =>
 if (decide (r15 ≥ 0)) = true then
 (ixI s r15) >>= fun x17 =>
 Z2 ([] : List Ze) name_ x17.fType >>= fun r18 =>
 some r18
 else
 some (t.fName.toList == name_.toList)
 else
 ZJ s name_ 0 t t.fKids
 partial_fixpoint
def ZJ (s : (List Ze)) (name_ : ByteArray) (i_8 : Nat) (t : Za) (ZdB : (List Za)) : Option (Bool) :=
 (match ZdB with
 | x36 :: ZDi =>
 Z2 s name_ x36 >>= fun r39 =>
 if r39 = true then
 some true
 else
 ZJ s name_ (i_8 + 1) t ZDi
 | [] =>
 some false)
 partial_fixpoint
end
def Z2.M (s : (List Ze)) (name_ : ByteArray) (t : Za) (r : Bool) : Prop :=
 Zj Tryz.prog 55 [.c none (.sl (s.map Ze.cells)), .c none (.v (.string name_)), .agg [.v (.int .i64 t.fOp), .v (.string t.fName), .sl (t.fBound.fArgs.map Zk.cells), .sl (t.fKids.map Za.cells)]] [] (fun d b => d = .c none (.v (.bool r)) ∧ b = [])
def ZJ.M (s : (List Ze)) (name_ : ByteArray) (i_8 : Nat) (t : Za) (ZdB : (List Za)) (r : Bool) : Prop :=
 ∀ Zjf : List Za, t.fKids = Zjf ++ ZdB → i_8 = Zjf.length → AWL Tryz.prog 44 (Code.sub (Zq Tryz.f55) [1, 1, 0, 1, 0, 0]) (Code.cont Tryz.prog 44 (Zq Tryz.f55) [1, 1, 0, 1, 0] (ZbW tab Tryz.f55.results (ZbY (.c none (.v (.bool r))) []))) ⟨[(0, .c none (.sl (s.map Ze.cells))), (1, .c none (.v (.string name_))), (5, .ptr 5 0), (8, .c none (.v (.int .i64 ((i_8 : Nat) : Int))))], [(5, [(none, .v (.int .i64 t.fOp)), (none, .v (.string t.fName)), (none, .sl (t.fBound.fArgs.map Zk.cells)), (none, .sl (t.fKids.map Za.cells))])]⟩
theorem ZhZ (name_ : ByteArray) : (∀ (s : (List Ze)) (t : Za), ∀ r, Z2 s name_ t = some r → Z2.M s name_ t r) ∧ (∀ (s : (List Ze)) (i_8 : Nat) (t : Za) (ZdB : (List Za)), ∀ r, ZJ s name_ i_8 t ZdB = some r → ZJ.M s name_ i_8 t ZdB r) := by
 refine Z2.mutual_partial_correctness name_ (fun s t r => Z2.M s name_ t r) (fun s i_8 t ZdB r => ZJ.M s name_ i_8 t ZdB r) ?_ ?_
 ·intro lazycref18_occurs' lazycref18_occurs_l1' ZdO Zdp s t r hF
  have Zf1 := fun (s : (List Ze)) (_name_ : ByteArray) (t : Za) => ZdO s t
  clear ZdO
  have Ze6 := fun (s : (List Ze)) (_name_ : ByteArray) (i_8 : Nat) (t : Za) (ZdB : (List Za)) => Zdp s i_8 t ZdB
  clear Zdp
  unfold Z2.M
  refine en Tryz.func55 ?_
  refine AWP.seq ?_
  refine ns ?_
  refine AWP.seq ?_
  refine AWP.seq ?_
  refine ns ?_
  refine nw ?_
  refine Zi hF (fun Zdt hF => ?_) (fun Zdt hF => ?_)
  ·refine AWP.seq ?_
   refine AWP.seq ?_
   obtain ⟨r15, Zv2, hF⟩ := bind_some hF
   refine ns ?_
   refine e3 ?_
   refine st ?_
   refine cm (Zj.weak (rn []) (ZjD s t.fName _ Zv2) rfl (WS.mk (tc (tc Zb)) Zc)) ?_
   refine st ?_
   refine AWP.seq ?_
   refine ns ?_
   refine nw ?_
   refine Zi hF (fun Zgs hF => ?_) (fun Zgs hF => ?_)
   ·refine AWP.seq ?_
    obtain ⟨x17, hx170, ZIw, hF⟩ := ZcL hF
    obtain ⟨r18, ZCt, hF⟩ := bind_some hF
    refine nn ?_
    refine sr (ZbX (f := Ze.cells) (Ze.cells_eq x17) ZIw) ?_
    refine st ?_
    refine e3 ?_
    refine st ?_
    refine cm (Zj.weak (rn []) (Zf1 ([] : List Ze) name_ x17.fType _ ZCt) rfl (WS.mk (Zd (Zr WE.nil) (tc (Zd (Zt (lc (lc (lc (lc Zo))))) Zb))) Zc)) ?_
    refine st ?_
    obtain rfl := Zg hF
    refine ns ?_
    refine Exists.intro [] ?_
    refine st ?_
    exact wx (WS.mk (tc Zb) Zc)
   ·refine nw ?_
    refine AWP.seq ?_
    refine ns ?_
    obtain rfl := Zg hF
    refine ns ?_
    refine Exists.intro [] ?_
    refine st ?_
    exact wx (WS.mk (tc Zb) Zc)
  ·refine nw ?_
   refine AWP.seq ?_
   refine AWP.seq ?_
   refine ns ?_
   refine AWP.block ?_
   refine AWP.loop ?_
   refine AWL.weak (rn []) ?_ (Ze6 s name_ 0 t t.fKids _ hF ([]) rfl rfl)
   exact (WS.mk (tc (tc (tp (tc Zb)))) (Zf rfl (cc (cc (cc (cc Zh)))) Zc))
 ·intro lazycref18_occurs' lazycref18_occurs_l1' ZdO Zdp s i_8 t ZdB r hF
  have Zf1 := fun (s : (List Ze)) (_name_ : ByteArray) (t : Za) => ZdO s t
  clear ZdO
  have Ze6 := fun (s : (List Ze)) (_name_ : ByteArray) (i_8 : Nat) (t : Za) (ZdB : (List Za)) => Zdp s i_8 t ZdB
  clear Zdp
  unfold ZJ.M
  intro Zjf ZrA ZrH
  refine AWL.step ?_
  refine AWP.seq ?_
  refine AWP.seq ?_
  refine ns ?_
  intro hlen35
  (try rw [List.length_map] at hlen35)
  (try rw [List.length_map])
  refine st ?_
  refine nw ?_
  refine ZN ZrA ZrH (fun x36 ZDi ZB8 ZGV ZG8 => ?_) (fun ZB8 => ?_)
  ·subst ZB8
   refine nw ?_
   refine AWP.seq ?_
   refine AWP.block ?_
   refine AWP.seq ?_
   obtain ⟨r39, ZDE, hF⟩ := bind_some hF
   refine nn ?_
   refine sr (Zab (f := Za.cells) (Za.cells_eq x36) ZGV) ?_
   refine st ?_
   refine e3 ?_
   refine st ?_
   refine cm (Zj.weak (rn []) (Zf1 s name_ x36 _ ZDE) rfl (WS.mk (tc (tc (Zd (Zt (lc (lc (lc (lc Zo))))) Zb))) Zc)) ?_
   refine st ?_
   refine nw ?_
   refine Zi hF (fun Zn0 hF => ?_) (fun Zn0 hF => ?_)
   ·refine AWP.seq ?_
    refine ns ?_
    obtain rfl := Zg hF
    refine ns ?_
    refine Exists.intro [] ?_
    refine st ?_
    exact wx (WS.mk (tc Zb) Zc)
   ·refine nw ?_
    refine ns ?_
    refine AWL.weak (rn []) ?_ (Ze6 s name_ (i_8 + 1) t ZDi _ hF (Zjf ++ [x36]) (by rw [ZrA]; simp) (by rw [ZrH]; simp))
    exact (WS.mk (tc (tc (tp (Zd (Zr (Zdf (ZV hlen35 ZG8))) Zb)))) (Zf rfl (cc (cc (cc (cc Zh)))) Zc))
  ·subst ZB8
   refine nw ?_
   refine AWP.seq ?_
   refine ns ?_
   obtain rfl := Zg hF
   refine ns ?_
   refine Exists.intro [] ?_
   refine st ?_
   exact wx (WS.mk (tc Zb) Zc)
theorem Zmr : ∀ (s : (List Ze)) (name_ : ByteArray) (t : Za), ∀ r, Z2 s name_ t = some r → Z2.M s name_ t r := fun s name_ t => (ZhZ name_).1 s t
theorem lazycref18_occurs_l1_ok : ∀ (s : (List Ze)) (name_ : ByteArray) (i_8 : Nat) (t : Za) (ZdB : (List Za)), ∀ r, ZJ s name_ i_8 t ZdB = some r → ZJ.M s name_ i_8 t ZdB r := fun s name_ i_8 t ZdB => (ZhZ name_).2 s i_8 t ZdB

def ZbO (l : (List ByteArray)) (s : ByteArray) (i_5 : Nat) (Zay : (List ByteArray)) : Option (Bool) :=
 (match Zay with
 | x16 :: ZjO =>
 if (x16.toList == s.toList) = true then
 some true
 else
 ZbO l s (i_5 + 1) ZjO
 | [] =>
 some false)
 partial_fixpoint
def ZbO.M (l : (List ByteArray)) (s : ByteArray) (i_5 : Nat) (Zay : (List ByteArray)) (r : Bool) : Prop :=
 ∀ Zdx : List ByteArray, l = Zdx ++ Zay → i_5 = Zdx.length → AWL Tryz.prog 18 (Code.sub (Zq Tryz.f60) [1, 0, 1, 0, 0]) (Code.cont Tryz.prog 18 (Zq Tryz.f60) [1, 0, 1, 0] (ZbW tab Tryz.f60.results (ZbY (.c none (.v (.bool r))) []))) ⟨[(0, .c none (.sl (l.map c_S))), (1, .c none (.v (.string s))), (5, .c none (.v (.int .i64 ((i_5 : Nat) : Int))))], []⟩
theorem ZmK (l : (List ByteArray)) (s : ByteArray) (i_5 : Nat) (Zay : (List ByteArray)) : ∀ r, ZbO l s i_5 Zay = some r → ZbO.M l s i_5 Zay r := by
 refine ZbO.partial_correctness l s (fun i_5 Zay r => ZbO.M l s i_5 Zay r) ?_ i_5 Zay
 intro lazycref01_Has_l1' Zh4 i_5 Zay r hF
 have ZmV := fun (_l : (List ByteArray)) (_s : ByteArray) (i_5 : Nat) (Zay : (List ByteArray)) => Zh4 i_5 Zay
 clear Zh4
 unfold ZbO.M
 intro Zdx Zhs ZhA
 refine AWL.step ?_
 refine AWP.seq ?_
 refine AWP.seq ?_
 refine ns ?_
 intro hlen15
 (try rw [List.length_map] at hlen15)
 (try rw [List.length_map])
 refine st ?_
 refine nw ?_
 refine ZN Zhs ZhA (fun x16 ZjO ZjP Zrd ZqM => ?_) (fun ZjP => ?_)
 ·subst ZjP
  refine nw ?_
  refine AWP.seq ?_
  refine AWP.block ?_
  refine AWP.seq ?_
  refine nn ?_
  refine sr (Zab (f := c_S) rfl Zrd) ?_
  refine st ?_
  refine nw ?_
  refine Zi hF (fun ZtA hF => ?_) (fun ZtA hF => ?_)
  ·refine AWP.seq ?_
   refine ns ?_
   obtain rfl := Zg hF
   refine ns ?_
   refine Exists.intro [] ?_
   refine st ?_
   exact wx (WS.mk (tc Zb) Zc)
  ·refine nw ?_
   refine ns ?_
   refine AWL.weak (rn []) ?_ (ZmV l s (i_5 + 1) ZjO _ hF (Zdx ++ [x16]) (by rw [Zhs]; simp) (by rw [ZhA]; simp))
   exact (WS.mk (tc (tc (Zd (Zr (Zdf (ZV hlen15 ZqM))) Zb))) Zc)
 ·subst ZjP
  refine nw ?_
  refine AWP.seq ?_
  refine ns ?_
  obtain rfl := Zg hF
  refine ns ?_
  refine Exists.intro [] ?_
  refine st ?_
  exact wx (WS.mk (tc Zb) Zc)

def Zbx (l : (List ByteArray)) (s : ByteArray) : Option (Bool) :=
 ZbO l s 0 l
def Zbx.M (l : (List ByteArray)) (s : ByteArray) (r : Bool) : Prop :=
 Zj Tryz.prog 60 [.c none (.sl (l.map c_S)), .c none (.v (.string s))] [] (fun d b => d = .c none (.v (.bool r)) ∧ b = [])
theorem ZeM (l : (List ByteArray)) (s : ByteArray) (r : Bool) (hF : Zbx l s = some r) : Zbx.M l s r := by
 unfold Zbx at hF
 unfold Zbx.M
 refine en Tryz.func60 ?_
 refine AWP.seq ?_
 refine ns ?_
 refine AWP.seq ?_
 refine AWP.seq ?_
 refine ns ?_
 refine AWP.block ?_
 refine AWP.loop ?_
 refine AWL.weak (rn []) ?_ (ZmK l s 0 l _ hF ([]) rfl rfl)
 exact (WS.mk (tc (tc (tc Zb))) Zc)

def ZcO (l : (List ByteArray)) (s : ByteArray) : Option ((List ByteArray)) :=
 Zbx l s >>= fun r3 =>
 if r3 = true then
 some l
 else
 Z5 ((l.length + ([s]).length) * 16 ≤ 140737488355328) >>= fun _ =>
 some (l ++ ([s]))
def ZcO.M (l : (List ByteArray)) (s : ByteArray) (r : (List ByteArray)) : Prop :=
 Zj Tryz.prog 67 [.c (some (0, 9)) (.sl (l.map c_S)), .c none (.v (.string s))] [] (fun d b => d = .c (some (0, 9)) (.sl (r.map c_S)) ∧ b = [])
theorem Zmj (l : (List ByteArray)) (s : ByteArray) (r : (List ByteArray)) (hF : ZcO l s = some r) : ZcO.M l s r := by
 unfold ZcO at hF
 unfold ZcO.M
 refine en Tryz.func67 ?_
 refine AWP.seq ?_
 refine ns ?_
 refine AWP.seq ?_
 refine AWP.seq ?_
 obtain ⟨r3, hr3, hF⟩ := bind_some hF
 refine ns ?_
 refine Exists.intro [0] (Exists.intro [] (Exists.intro [] ?_))
 refine st ?_
 refine cm (Zj.weak (rn []) (ZeM l s _ hr3) rfl (WS.mk (tc (tc Zb)) Zc)) ?_
 refine st ?_
 refine nw ?_
 refine Zi hF (fun hc4 hF => ?_) (fun hc4 hF => ?_)
 ·refine AWP.seq ?_
  refine ns ?_
  obtain rfl := Zg hF
  refine ns ?_
  refine Exists.intro [] ?_
  refine st ?_
  exact Exists.intro (rn [(0, 0)]) (WS.mk (Zd (Zam rfl (WE.refl _)) Zb) Zc)
 ·refine nw ?_
  refine AWP.seq ?_
  obtain ⟨hg5, hF⟩ := Zy hF
  refine ns ?_
  refine Exists.intro _ (And.intro (Zbt (f := c_S) (lc Zo) (ZY (f := c_S))) ?_)
  refine sa (fun l => ZbU l (fun x => ZfO x)) hg5 ?_
  refine Exists.intro _ (And.intro (WE.refl _) ?_)
  rw [← List.map_append]
  refine st ?_
  obtain rfl := Zg hF
  refine ns ?_
  refine Exists.intro [] ?_
  refine st ?_
  exact Exists.intro (rn [(12, 0)]) (WS.mk (Zd (Zam rfl (WE.refl _)) Zb) Zc)

mutual
def Zak (out : (List ByteArray)) (Z3 : (List ByteArray)) (t : Za) : Option ((List ByteArray)) :=
 (if (t.fOp == 1) = true then Zbx Z3 t.fName >>= fun r5 =>
 some (!r5) else some false) >>= fun c6 =>
 if c6 = true then
 ZcO out t.fName >>= fun r9 =>
 some r9
 else
 if (t.fOp == 4) = true then
 Z5 ((0 + Z3.length) * 16 ≤ 140737488355328) >>= fun _ =>
 Z5 ((Z3.length + ([t.fName]).length) * 16 ≤ 140737488355328) >>= fun _ =>
 Zao out (Z3 ++ ([t.fName])) t
 else
 Zao out Z3 t
 partial_fixpoint
def Zao (out : (List ByteArray)) (ZA : (List ByteArray)) (t : Za) : Option ((List ByteArray)) :=
 Z8 out ZA 0 t t.fKids
 partial_fixpoint
def Z8 (ZlV : (List ByteArray)) (ZA : (List ByteArray)) (i_8 : Nat) (t : Za) (ZdB : (List Za)) : Option ((List ByteArray)) :=
 (match ZdB with
 | x28 :: ZCh =>
 Zak ZlV ZA x28 >>= fun r31 =>
 Z8 r31 ZA (i_8 + 1) t ZCh
 | [] =>
 some ZlV)
 partial_fixpoint
end
def Zak.M (out : (List ByteArray)) (Z3 : (List ByteArray)) (t : Za) (r : (List ByteArray)) : Prop :=
 Zj Tryz.prog 41 [.c (some (0, 9)) (.sl (out.map c_S)), .c none (.sl (Z3.map c_S)), .agg [.v (.int .i64 t.fOp), .v (.string t.fName), .sl (t.fBound.fArgs.map Zk.cells), .sl (t.fKids.map Za.cells)]] [] (fun d b => d = .c (some (0, 9)) (.sl (r.map c_S)) ∧ b = [])
def Zao.M (out : (List ByteArray)) (ZA : (List ByteArray)) (t : Za) (r : (List ByteArray)) : Prop :=
 AWP Tryz.prog 51 (Code.sub (Zq Tryz.f41) [1, 1, 1]) (Code.cont Tryz.prog 51 (Zq Tryz.f41) [1, 1, 1] (ZbW tab Tryz.f41.results (ZbY (.c (some (0, 9)) (.sl (r.map c_S))) []))) ⟨[(0, .c (some (0, 9)) (.sl (out.map c_S))), (1, .c none (.sl (ZA.map c_S))), (5, .ptr 5 0)], [(5, [(none, .v (.int .i64 t.fOp)), (none, .v (.string t.fName)), (none, .sl (t.fBound.fArgs.map Zk.cells)), (none, .sl (t.fKids.map Za.cells))])]⟩
def Z8.M (ZlV : (List ByteArray)) (ZA : (List ByteArray)) (i_8 : Nat) (t : Za) (ZdB : (List Za)) (r : (List ByteArray)) : Prop :=
 ∀ Zjf : List Za, t.fKids = Zjf ++ ZdB → i_8 = Zjf.length → AWL Tryz.prog 51 (Code.sub (Zq Tryz.f41) [1, 1, 1, 0, 1, 0, 0]) (Code.cont Tryz.prog 51 (Zq Tryz.f41) [1, 1, 1, 0, 1, 0] (ZbW tab Tryz.f41.results (ZbY (.c (some (0, 9)) (.sl (r.map c_S))) []))) ⟨[(0, .c (some (0, 9)) (.sl (ZlV.map c_S))), (1, .c none (.sl (ZA.map c_S))), (5, .ptr 5 0), (8, .c none (.v (.int .i64 ((i_8 : Nat) : Int))))], [(5, [(none, .v (.int .i64 t.fOp)), (none, .v (.string t.fName)), (none, .sl (t.fBound.fArgs.map Zk.cells)), (none, .sl (t.fKids.map Za.cells))])]⟩
theorem Zfo : (∀ (out : (List ByteArray)) (Z3 : (List ByteArray)) (t : Za), ∀ r, Zak out Z3 t = some r → Zak.M out Z3 t r) ∧ (∀ (out : (List ByteArray)) (ZA : (List ByteArray)) (t : Za), ∀ r, Zao out ZA t = some r → Zao.M out ZA t r) ∧ (∀ (ZlV : (List ByteArray)) (ZA : (List ByteArray)) (i_8 : Nat) (t : Za) (ZdB : (List Za)), ∀ r, Z8 ZlV ZA i_8 t ZdB = some r → Z8.M ZlV ZA i_8 t ZdB r) := by
 refine Zak.mutual_partial_correctness Zak.M Zao.M Z8.M ?_ ?_ ?_
 ·intro lazycref04_Collect_k1' ZgN out Z3 t r hF
  unfold Zak.M
  refine en Tryz.func41 ?_
  refine AWP.seq ?_
  refine ns ?_
  refine AWP.seq ?_
  refine AWP.seq ?_
  obtain ⟨c6, hc6, hF⟩ := bind_some hF
  refine AWP.cutN (fun T => ∃ r, WS r T ⟨[(0, .c (some (0, 9)) (.sl (out.map c_S))), (1, .c none (.sl (Z3.map c_S))), (5, .ptr 5 0), (18, .c none (.v (.bool c6)))], [(5, [(none, .v (.int .i64 t.fOp)), (none, .v (.string t.fName)), (none, .sl (t.fBound.fArgs.map Zk.cells)), (none, .sl (t.fKids.map Za.cells))])]⟩) ?_ (fun T hw => ?_)
  ·refine ns ?_
   refine Zm true (fun hc7 => ?_) (fun hc7 => ?_)
   ·have hc6 := ift hc7 hc6
    obtain ⟨r5, hr5, hc6⟩ := bind_some hc6
    (conv => whnf)
    refine st ?_
    refine e3 ?_
    refine st ?_
    refine cm (Zj.weak (rn []) (ZeM Z3 t.fName _ hr5) rfl (WS.mk (tc (tc Zb)) Zc)) ?_
    refine st ?_
    obtain rfl := Zg hc6
    refine st ?_
    exact Exists.intro (rn [(0, 0)]) (WS.mk (Zd (Zam rfl (WE.refl _)) (tc (tp (Zd (Zr (web hc7)) Zb)))) (Zf rfl (cc (cc (cc (cc Zh)))) Zc))
   ·have hc6 := ife hc7 hc6
    (conv => whnf)
    obtain rfl := Zg hc6
    refine st ?_
    exact Exists.intro (rn [(0, 0)]) (WS.mk (Zd (Zam rfl (WE.refl _)) (tc (tp (Zd (Zr (web hc7)) Zb)))) (Zf rfl (cc (cc (cc (cc Zh)))) Zc))
  obtain ⟨r0, hw⟩ := hw
  (conv => whnf)
  refine AWP.weak r0 hw ?_
  refine nw ?_
  refine Zi hF (fun hc8 hF => ?_) (fun hc8 hF => ?_)
  ·refine AWP.seq ?_
   obtain ⟨r9, hr9, hF⟩ := bind_some hF
   refine ns ?_
   refine e3 ?_
   refine st ?_
   refine cm (Zj.weak (rn [(0, 0)]) (Zmj out t.fName _ hr9) rfl (WS.mk (Zd (Zam rfl (WE.refl _)) (tc Zb)) Zc)) ?_
   refine st ?_
   obtain rfl := Zg hF
   refine ns ?_
   refine Exists.intro [] ?_
   refine st ?_
   exact Exists.intro (rn [(22, 0)]) (WS.mk (Zd (Zam rfl (WE.refl _)) Zb) Zc)
  ·refine nw ?_
   refine AWP.seq ?_
   refine AWP.seq ?_
   refine ns ?_
   refine nw ?_
   refine Zi hF (fun ZnQ hF => ?_) (fun ZnQ hF => ?_)
   ·refine AWP.seq ?_
    refine ns ?_
    refine AWP.seq ?_
    obtain ⟨ZIj, hF⟩ := Zy hF
    refine nn ?_
    refine sa (fun l => ZbU l (fun x => ZfO x)) ZIj ?_
    refine Exists.intro _ (And.intro (WE.refl _) ?_)
    (try rw [List.nil_append])
    refine st ?_
    refine AWP.seq ?_
    obtain ⟨ZHH, hF⟩ := Zy hF
    refine ns ?_
    refine Exists.intro _ (And.intro (Zbt (f := c_S) (lc Zo) (ZY (f := c_S))) ?_)
    refine sa (fun l => ZbU l (fun x => ZfO x)) ZHH ?_
    refine Exists.intro _ (And.intro (WE.refl _) ?_)
    rw [← List.map_append]
    refine st ?_
    refine ns ?_
    refine AWP.weak (rn [(0, 0)]) ?_ (ZgN out (Z3 ++ ([t.fName])) t _ hF)
    exact (WS.mk (Zd (Zam rfl (WE.refl _)) (tc (tp Zb))) (Zf rfl (cc (cc (cc (cc Zh)))) Zc))
   ·refine nw ?_
    refine AWP.weak (rn [(0, 0)]) ?_ (ZgN out Z3 t _ hF)
    exact (WS.mk (Zd (Zam rfl (WE.refl _)) (tc (tp Zb))) (Zf rfl (cc (cc (cc (cc Zh)))) Zc))
 ·intro lazycref04_Collect_l2' ZeX out ZA t r hF
  unfold Zao.M
  refine AWP.seq ?_
  refine AWP.seq ?_
  refine ns ?_
  refine AWP.block ?_
  refine AWP.loop ?_
  refine AWL.weak (rn [(0, 0)]) ?_ (ZeX out ZA 0 t t.fKids _ hF ([]) rfl rfl)
  exact (WS.mk (Zd (Zam rfl (WE.refl _)) (tc (tp (tc Zb)))) (Zf rfl (cc (cc (cc (cc Zh)))) Zc))
 ·intro lazycref04_Collect' lazycref04_Collect_l2' Zl7 ZeX ZlV ZA i_8 t ZdB r hF
  unfold Z8.M
  intro Zjf ZrA ZrH
  refine AWL.step ?_
  refine AWP.seq ?_
  refine AWP.seq ?_
  refine ns ?_
  intro hlen27
  (try rw [List.length_map] at hlen27)
  (try rw [List.length_map])
  refine st ?_
  refine nw ?_
  refine ZN ZrA ZrH (fun x28 ZCh ZDt ZHO ZHn => ?_) (fun ZDt => ?_)
  ·subst ZDt
   refine nw ?_
   refine AWP.seq ?_
   refine AWP.block ?_
   obtain ⟨r31, ZD3, hF⟩ := bind_some hF
   refine nn ?_
   refine sr (Zab (f := Za.cells) (Za.cells_eq x28) ZHO) ?_
   refine st ?_
   refine e3 ?_
   refine st ?_
   refine cm (Zj.weak (rn [(0, 0)]) (Zl7 ZlV ZA x28 _ ZD3) rfl (WS.mk (Zd (Zam rfl (WE.refl _)) (tc (Zd (Zt (lc (lc (lc (lc Zo))))) Zb))) Zc)) ?_
   refine st ?_
   refine ns ?_
   refine AWL.weak (rn [(49, 0)]) ?_ (ZeX r31 ZA (i_8 + 1) t ZCh _ hF (Zjf ++ [x28]) (by rw [ZrA]; simp) (by rw [ZrH]; simp))
   exact (WS.mk (Zd (Zam rfl (WE.refl _)) (tc (tp (Zd (Zr (Zdf (ZV hlen27 ZHn))) Zb)))) (Zf rfl (cc (cc (cc (cc Zh)))) Zc))
  ·subst ZDt
   refine nw ?_
   refine AWP.seq ?_
   refine ns ?_
   obtain rfl := Zg hF
   refine ns ?_
   refine Exists.intro [] ?_
   refine st ?_
   exact Exists.intro (rn [(0, 0)]) (WS.mk (Zd (Zam rfl (WE.refl _)) Zb) Zc)
theorem ZfG : ∀ (out : (List ByteArray)) (Z3 : (List ByteArray)) (t : Za), ∀ r, Zak out Z3 t = some r → Zak.M out Z3 t r := Zfo.1
theorem lazycref04_Collect_k1_ok : ∀ (out : (List ByteArray)) (ZA : (List ByteArray)) (t : Za), ∀ r, Zao out ZA t = some r → Zao.M out ZA t r := Zfo.2.1
theorem lazycref04_Collect_l2_ok : ∀ (ZlV : (List ByteArray)) (ZA : (List ByteArray)) (i_8 : Nat) (t : Za) (ZdB : (List Za)), ∀ r, Z8 ZlV ZA i_8 t ZdB = some r → Z8.M ZlV ZA i_8 t ZdB r := Zfo.2.2

def Zdr (t : Za) : Option ((List ByteArray)) :=
 ZaH t >>= fun r3 =>
 if (r3 != 0) = true then
 some ([] : List ByteArray)
 else
 Zak ([] : List ByteArray) ([] : List ByteArray) t >>= fun r5 =>
 some r5
def Zdr.M (t : Za) (r : (List ByteArray)) : Prop :=
 Zj Tryz.prog 19 [.agg [.v (.int .i64 t.fOp), .v (.string t.fName), .sl (t.fBound.fArgs.map Zk.cells), .sl (t.fKids.map Za.cells)]] [] (fun d b => d = .c (some (0, 9)) (.sl (r.map c_S)) ∧ b = [])
theorem Zoo (t : Za) (r : (List ByteArray)) (hF : Zdr t = some r) : Zdr.M t r := by
 unfold Zdr at hF
 unfold Zdr.M
 refine en Tryz.func19 ?_
 refine AWP.seq ?_
 refine ns ?_
 refine AWP.seq ?_
 refine AWP.seq ?_
 obtain ⟨r3, hr3, hF⟩ := bind_some hF
 refine ns ?_
 refine e3 ?_
 refine st ?_
 refine cm (Zj.weak (rn []) (ZdI t _ hr3) rfl (WS.mk (Zd (Zt (lc (lc (lc (lc Zo))))) Zb) Zc)) ?_
 refine st ?_
 refine nw ?_
 refine Zi hF (fun hc4 hF => ?_) (fun hc4 hF => ?_)
 ·refine AWP.seq ?_
  refine ns ?_
  obtain rfl := Zg hF
  refine ns ?_
  refine Exists.intro [] ?_
  refine st ?_
  exact wx (WS.mk (Zd ZjI Zb) Zc)
 ·refine nw ?_
  refine AWP.seq ?_
  obtain ⟨r5, hr5, hF⟩ := bind_some hF
  refine ns ?_
  refine e3 ?_
  refine st ?_
  refine cm (Zj.weak (rn []) (ZfG ([] : List ByteArray) ([] : List ByteArray) t _ hr5) rfl (WS.mk (Zd ZjI (Zd (Zr WE.nil) (Zd (Zt (lc (lc (lc (lc Zo))))) Zb))) Zc)) ?_
  refine st ?_
  obtain rfl := Zg hF
  refine ns ?_
  refine Exists.intro [] ?_
  refine st ?_
  exact Exists.intro (rn [(7, 0)]) (WS.mk (Zd (Zam rfl (WE.refl _)) Zb) Zc)

mutual
def ZbV (sub : (List (ByteArray × Za))) (t : Za) : Option (Int × Int) :=
 ZeS sub (Za.mk 0 (ByteArray.mk #[]) (Zk.mk ([] : List Zk)) ([] : List Za)) t.fName >>= fun r7 =>
 if (r7.2 && (t.fOp == 1)) = true then
 ZcF r7.1 >>= fun r12 =>
 Zcg r7.1 >>= fun r13 =>
 some (r12, r13)
 else
 ZeS sub (Za.mk 0 (ByteArray.mk #[]) (Zk.mk ([] : List Zk)) ([] : List Za)) t.fName >>= fun r16 =>
 if (r16.2 && (t.fOp == 4)) = true then
 none
 else
 Z4 0 0 t 0 sub t.fKids
 partial_fixpoint
def Z4 (ZcM : Int) (ZbH : Int) (t : Za) (ZkU : Nat) (sub : (List (ByteArray × Za))) (ZeC : (List Za)) : Option (Int × Int) :=
 (match ZeC with
 | x42 :: ZDx =>
 ZbV sub x42 >>= fun r45 =>
 Z4 (IntKind.i64.wrap (ZcM + r45.1)) (if r45.2 > ZbH then r45.2 else ZbH) t (ZkU + 1) sub ZDx
 | [] =>
 some (IntKind.i64.wrap (ZcM + 1), IntKind.i64.wrap (ZbH + 1)))
 partial_fixpoint
end
def ZbV.M (sub : (List (ByteArray × Za))) (t : Za) (r : Int × Int) : Prop :=
 Zj Tryz.prog 69 [.c none (.rf 1000), .agg [.v (.int .i64 t.fOp), .v (.string t.fName), .sl (t.fBound.fArgs.map Zk.cells), .sl (t.fKids.map Za.cells)]] [(1000, [(none, .ob 183 (sub.map (Zec c_S Za.cells)))])] (fun d b => d = .tup [.c (.v (.int .i64 r.1)), .c (.v (.int .i64 r.2))] ∧ b = [(1000, [(none, .ob 183 (sub.map (Zec c_S Za.cells)))])])
def Z4.M (ZcM : Int) (ZbH : Int) (t : Za) (ZkU : Nat) (sub : (List (ByteArray × Za))) (ZeC : (List Za)) (r : Int × Int) : Prop :=
 ∀ Zoy : List Za, t.fKids = Zoy ++ ZeC → ZkU = Zoy.length → t.fKids.length ≤ maxLen → AWL Tryz.prog 72 (Code.sub (Zq Tryz.f69) [1, 1, 1, 0, 1, 0, 0]) (Code.cont Tryz.prog 72 (Zq Tryz.f69) [1, 1, 1, 0, 1, 0] (ZbW tab Tryz.f69.results (ZbY (.tup [.c (.v (.int .i64 r.1)), .c (.v (.int .i64 r.2))]) [(1000, [(none, .ob 183 (sub.map (Zec c_S Za.cells)))])]))) ⟨[(0, .c none (.rf 1000)), (4, .c none (.v (.int .i64 ZcM))), (5, .c none (.v (.int .i64 ZbH))), (49, .c none (.sl (t.fKids.map Za.cells))), (50, .c none (.v (.int .i64 ((t.fKids.length : Nat) : Int)))), (51, .c none (.v (.int .i64 ((ZkU : Nat) : Int))))], [(1000, [(none, .ob 183 (sub.map (Zec c_S Za.cells)))])]⟩
theorem Zj7 (sub : (List (ByteArray × Za))) : (∀ (t : Za), ∀ r, ZbV sub t = some r → ZbV.M sub t r) ∧ (∀ (ZcM : Int) (ZbH : Int) (t : Za) (ZkU : Nat) (ZeC : (List Za)), ∀ r, Z4 ZcM ZbH t ZkU sub ZeC = some r → Z4.M ZcM ZbH t ZkU sub ZeC r) := by
 refine ZbV.mutual_partial_correctness sub (fun t r => ZbV.M sub t r) (fun ZcM ZbH t ZkU ZeC r => Z4.M ZcM ZbH t ZkU sub ZeC r) ?_ ?_
 ·intro types_measure_l1' ZdY t r hF
  have Zgw := fun (ZcM : Int) (ZbH : Int) (t : Za) (ZkU : Nat) (_sub : (List (ByteArray × Za))) (ZeC : (List Za)) => ZdY ZcM ZbH t ZkU ZeC
  clear ZdY
  unfold ZbV.M
  refine en Tryz.func69 ?_
  refine AWP.seq ?_
  refine ns ?_
  refine AWP.seq ?_
  refine AWP.seq ?_
  obtain ⟨r7, hr7, hF⟩ := bind_some hF
  refine ns ?_
  refine ZhG (m := sub) (k := t.fName) ZhN (ev := Za.cells) hr7 (Za.cells_eq r7.1) (fun x => Za.cells_len x) rfl rfl (ZdA (Za.cells_eq (Za.mk 0 (ByteArray.mk #[]) (Zk.mk ([] : List Zk)) ([] : List Za))) (lc (lc (ZaR WE.nil (ZaR WE.nil Zo))))) ?_
  refine st ?_
  refine AWP.seq ?_
  refine AWP.cutN (fun T => ∃ r, WS r T ⟨[(0, .c none (.rf 1000)), (3, .ptr 3 0), (4, .c none (.v (.int .i64 0))), (5, .c none (.v (.int .i64 0))), (6, .ptr 6 0), (26, .c none (.v (.bool (r7.2 && (t.fOp == 1)))))], [(3, [(none, .v (.int .i64 t.fOp)), (none, .v (.string t.fName)), (none, .sl (t.fBound.fArgs.map Zk.cells)), (none, .sl (t.fKids.map Za.cells))]), (6, [(none, .v (.int .i64 r7.1.fOp)), (none, .v (.string r7.1.fName)), (none, .sl (r7.1.fBound.fArgs.map Zk.cells)), (none, .sl (r7.1.fKids.map Za.cells))]), (1000, [(none, .ob 183 (sub.map (Zec c_S Za.cells)))])]⟩) ?_ (fun T hw => ?_)
  ·refine ns ?_
   refine Zm true (fun hc8 => ?_) (fun hc8 => ?_)
   ·(conv => whnf)
    refine st ?_
    exact wx (WS.mk (tc (tp (tc (tc (tp (Zd (Zr (web hc8)) Zb)))))) (Zf rfl (cc (cc (cc (cc Zh)))) (Zf rfl (cc (cc (cc (cc Zh)))) (Zf rfl (cc Zh) Zc))))
   ·(conv => whnf)
    refine st ?_
    exact wx (WS.mk (tc (tp (tc (tc (tp (Zd (Zr (web hc8)) Zb)))))) (Zf rfl (cc (cc (cc (cc Zh)))) (Zf rfl (cc (cc (cc (cc Zh)))) (Zf rfl (cc Zh) Zc))))
  obtain ⟨r0, hw⟩ := hw
  (conv => whnf)
  refine AWP.weak r0 hw ?_
  refine nw ?_
  refine Zi hF (fun hc9 hF => ?_) (fun hc9 hF => ?_)
  ·refine AWP.seq ?_
   obtain ⟨r12, ZAo, hF⟩ := bind_some hF
   obtain ⟨r13, ZG0, hF⟩ := bind_some hF
   refine nn ?_
   refine Or.inr (Exists.intro [2] (Exists.intro [[29]] (Exists.intro [6] (Exists.intro [6, 29] (Exists.intro [29] (Exists.intro [0, 1, 3, 4, 5] (And.intro (by decide +kernel) ?_)))))))
   refine dp ?_
   refine st ?_
   refine e3 ?_
   refine st ?_
   refine cm (Zj.weak (rn []) (ZnV r7.1 _ ZAo) rfl (WS.mk (Zd (Zt (lc (lc (lc (lc Zo))))) Zb) Zc)) ?_
   refine st ?_
   refine e3 ?_
   refine st ?_
   refine cm (Zj.weak (rn []) (Zmv r7.1 _ ZG0) rfl (WS.mk (Zd (Zt (lc (lc (lc (lc Zo))))) Zb) Zc)) ?_
   refine st ?_
   obtain rfl := Zg hF
   refine ns ?_
   refine Exists.intro [(1000, 1000)] ?_
   refine st ?_
   exact wx (WS.mk (Zd (Zc9 (ZcG (WE.refl _) (ZcG (WE.refl _) Zc7))) Zb) (Zf rfl (cc Zh) Zc))
  ·refine nw ?_
   refine AWP.seq ?_
   refine AWP.seq ?_
   obtain ⟨r16, Zwl, hF⟩ := bind_some hF
   refine ns ?_
   refine ZhG (m := sub) (k := t.fName) ZhN (ev := Za.cells) Zwl (Za.cells_eq r16.1) (fun x => Za.cells_len x) rfl rfl (ZdA (Za.cells_eq (Za.mk 0 (ByteArray.mk #[]) (Zk.mk ([] : List Zk)) ([] : List Za))) (lc (lc (ZaR WE.nil (ZaR WE.nil Zo))))) ?_
   refine st ?_
   refine AWP.seq ?_
   refine AWP.cutN (fun T => ∃ r, WS r T ⟨[(0, .c none (.rf 1000)), (3, .ptr 3 0), (4, .c none (.v (.int .i64 0))), (5, .c none (.v (.int .i64 0))), (43, .c none (.v (.bool (r16.2 && (t.fOp == 4)))))], [(3, [(none, .v (.int .i64 t.fOp)), (none, .v (.string t.fName)), (none, .sl (t.fBound.fArgs.map Zk.cells)), (none, .sl (t.fKids.map Za.cells))]), (1000, [(none, .ob 183 (sub.map (Zec c_S Za.cells)))])]⟩) ?_ (fun T hw => ?_)
   ·refine ns ?_
    refine Zm true (fun ZiR => ?_) (fun ZiR => ?_)
    ·(conv => whnf)
     refine st ?_
     exact wx (WS.mk (tc (tp (tc (tc (Zd (Zr (web ZiR)) Zb))))) (Zf rfl (cc (cc (cc (cc Zh)))) (Zf rfl (cc Zh) Zc)))
    ·(conv => whnf)
     refine st ?_
     exact wx (WS.mk (tc (tp (tc (tc (Zd (Zr (web ZiR)) Zb))))) (Zf rfl (cc (cc (cc (cc Zh)))) (Zf rfl (cc Zh) Zc)))
   obtain ⟨r0, hw⟩ := hw
   (conv => whnf)
   refine AWP.weak r0 hw ?_
   refine nw ?_
   refine Zi hF (fun ZtI hF => ?_) (fun ZtI hF => ?_)
   ·cases hF
   ·refine nw ?_
    refine AWP.seq ?_
    refine AWP.seq ?_
    refine ns ?_
    intro hlen32
    (try rw [List.length_map] at hlen32)
    (try rw [List.length_map])
    refine st ?_
    refine AWP.block ?_
    refine AWP.loop ?_
    refine AWL.weak (rn []) ?_ (Zgw 0 0 t 0 sub t.fKids _ hF ([]) rfl rfl hlen32)
    exact (WS.mk (tc (tc (tc (tc (tc (tc Zb)))))) (Zf rfl (cc Zh) Zc))
 ·intro types_measure' types_measure_l1' Zj8 ZdY ZcM ZbH t ZkU ZeC r hF
  have ZpM := fun (_sub : (List (ByteArray × Za))) (t : Za) => Zj8 t
  clear Zj8
  have Zgw := fun (ZcM : Int) (ZbH : Int) (t : Za) (ZkU : Nat) (_sub : (List (ByteArray × Za))) (ZeC : (List Za)) => ZdY ZcM ZbH t ZkU ZeC
  clear ZdY
  unfold Z4.M
  intro Zoy ZxE Zxa hlen32
  refine AWL.step ?_
  refine AWP.seq ?_
  refine ns ?_
  refine AWP.seq ?_
  refine nw ?_
  refine ZN ZxE Zxa (fun x42 ZDx ZB9 ZIn ZId => ?_) (fun ZB9 => ?_)
  ·subst ZB9
   refine nw ?_
   refine AWP.seq ?_
   refine AWP.block ?_
   refine AWP.seq ?_
   refine nn ?_
   refine sr (Zab (f := Za.cells) (Za.cells_eq x42) ZIn) ?_
   refine st ?_
   refine AWP.seq ?_
   obtain ⟨r45, ZIO, hF⟩ := bind_some hF
   refine ns ?_
   refine Exists.intro [] (Exists.intro [(1000, 1000)] (Exists.intro [] ?_))
   refine st ?_
   refine cm (Zj.weak (rn []) (ZpM sub x42 _ ZIO) rfl (WS.mk (tc (Zd (Zt (lc (lc (lc (lc Zo))))) Zb)) (Zf rfl (cc Zh) Zc))) ?_
   refine st ?_
   refine ns ?_
   refine ns ?_
   refine AWL.weak (rn []) ?_ (Zgw (IntKind.i64.wrap (ZcM + r45.1)) (if r45.2 > ZbH then r45.2 else ZbH) t (ZkU + 1) sub ZDx _ hF (Zoy ++ [x42]) (by rw [ZxE]; simp) (by rw [Zxa]; simp) hlen32)
   exact (WS.mk (tc (tc (tc (tc (tc (Zd (Zr (Zdf (ZV hlen32 ZId))) Zb)))))) (Zf rfl (cc Zh) Zc))
  ·subst ZB9
   refine nw ?_
   refine AWP.seq ?_
   refine ns ?_
   obtain rfl := Zg hF
   refine ns ?_
   refine Exists.intro [(1000, 1000)] ?_
   refine st ?_
   exact wx (WS.mk (Zd (Zc9 (ZcG (WE.refl _) (ZcG (WE.refl _) Zc7))) Zb) (Zf rfl (cc Zh) Zc))
theorem ZkJ : ∀ (sub : (List (ByteArray × Za))) (t : Za), ∀ r, ZbV sub t = some r → ZbV.M sub t r := fun sub t => (Zj7 sub).1 t
theorem types_measure_l1_ok : ∀ (ZcM : Int) (ZbH : Int) (t : Za) (ZkU : Nat) (sub : (List (ByteArray × Za))) (ZeC : (List Za)), ∀ r, Z4 ZcM ZbH t ZkU sub ZeC = some r → Z4.M ZcM ZbH t ZkU sub ZeC r := fun ZcM ZbH t ZkU sub ZeC => (Zj7 sub).2 ZcM ZbH t ZkU ZeC

def ZdD (Zeq : (List ByteArray)) (r77 : ((List ByteArray))) (ZnO : Nat) (t : Za) (sub : (List (ByteArray × Za))) (ZgX : (List ByteArray)) : Option (Za) :=
 (match ZgX with
 | x92 :: ZyQ =>
 ZeS sub (Za.mk 0 (ByteArray.mk #[]) (Zk.mk ([] : List Zk)) ([] : List Za)) x92 >>= fun r95 =>
 if r95.2 = true then
 Zc8 Zeq ([] : List ByteArray) r95.1 >>= fun r97 =>
 ZdD r97 r77 (ZnO + 1) t sub ZyQ
 else
 ZdD Zeq r77 (ZnO + 1) t sub ZyQ
 | [] =>
 none)
 partial_fixpoint
def ZdD.M (Zeq : (List ByteArray)) (r77 : ((List ByteArray))) (ZnO : Nat) (t : Za) (sub : (List (ByteArray × Za))) (ZgX : (List ByteArray)) (r : Za) : Prop :=
 ∀ ZmX : List ByteArray, r77 = ZmX ++ ZgX → ZnO = ZmX.length → r77.length ≤ maxLen → AWL Tryz.prog 98 (Code.sub (Zq Tryz.f70) [1, 1, 0, 1, 0, 1, 0, 1, 0, 0]) (Code.cont Tryz.prog 98 (Zq Tryz.f70) [1, 1, 0, 1, 0, 1, 0, 1, 0] (ZbW tab Tryz.f70.results (ZbY (.agg [.v (.int .i64 r.fOp), .v (.string r.fName), .sl (r.fBound.fArgs.map Zk.cells), .sl (r.fKids.map Za.cells)]) [(1000, [(none, .ob 183 (sub.map (Zec c_S Za.cells)))])]))) ⟨[(0, .c none (.rf 1000)), (3, .ptr 3 0), (4, .ptr 4 0), (7, .c (some (7, 9)) (.sl (Zeq.map c_S))), (34, .c (some (34, 9)) (.sl (r77.map c_S))), (35, .c none (.v (.int .i64 ((r77.length : Nat) : Int)))), (36, .c none (.v (.int .i64 ((ZnO : Nat) : Int))))], [(3, [(none, .v (.int .i64 t.fOp)), (none, .v (.string t.fName)), (none, .sl (t.fBound.fArgs.map Zk.cells)), (none, .sl (t.fKids.map Za.cells))]), (4, [(none, .v (.int .i64 0)), (none, .v (.string (ByteArray.mk #[]))), (none, .nils), (none, .nils)]), (1000, [(none, .ob 183 (sub.map (Zec c_S Za.cells)))])]⟩
theorem Zo1 (Zeq : (List ByteArray)) (r77 : ((List ByteArray))) (ZnO : Nat) (t : Za) (sub : (List (ByteArray × Za))) (ZgX : (List ByteArray)) : ∀ r, ZdD Zeq r77 ZnO t sub ZgX = some r → ZdD.M Zeq r77 ZnO t sub ZgX r := by
 refine ZdD.partial_correctness r77 t sub (fun Zeq ZnO ZgX r => ZdD.M Zeq r77 ZnO t sub ZgX r) ?_ Zeq ZnO ZgX
 intro types_subst_l1' Zjx Zeq ZnO ZgX r hF
 have Zka := fun (Zeq : (List ByteArray)) (_r77 : ((List ByteArray))) (ZnO : Nat) (_t : Za) (_sub : (List (ByteArray × Za))) (ZgX : (List ByteArray)) => Zjx Zeq ZnO ZgX
 clear Zjx
 unfold ZdD.M
 intro ZmX Zty ZtM hlen78
 refine AWL.step ?_
 refine AWP.seq ?_
 refine ns ?_
 refine AWP.seq ?_
 refine nw ?_
 refine ZN Zty ZtM (fun x92 ZyQ ZDb ZHC ZGx => ?_) (fun ZDb => ?_)
 ·subst ZDb
  refine nw ?_
  refine AWP.seq ?_
  refine AWP.block ?_
  refine AWP.seq ?_
  refine nn ?_
  refine sr (Zab (f := c_S) rfl ZHC) ?_
  refine st ?_
  refine AWP.seq ?_
  obtain ⟨r95, ZIq, hF⟩ := bind_some hF
  refine ns ?_
  refine ZhG (m := sub) (k := x92) ZhN (ev := Za.cells) ZIq (Za.cells_eq r95.1) (fun x => Za.cells_len x) rfl rfl (ZdA (Za.cells_eq (Za.mk 0 (ByteArray.mk #[]) (Zk.mk ([] : List Zk)) ([] : List Za))) (lc (lc (ZaR WE.nil (ZaR WE.nil Zo))))) ?_
  refine st ?_
  refine AWP.seq ?_
  refine ns ?_
  refine nw ?_
  refine Zi hF (fun ZpI hF => ?_) (fun ZpI hF => ?_)
  ·obtain ⟨r97, ZIi, hF⟩ := bind_some hF
   refine ns ?_
   refine e3 ?_
   refine st ?_
   refine cm (Zj.weak (rn [(7, 0)]) (Zky Zeq ([] : List ByteArray) r95.1 _ ZIi) rfl (WS.mk (Zd (Zam rfl (WE.refl _)) (Zd (Zr WE.nil) (Zd (Zt (lc (lc (lc (lc Zo))))) Zb))) Zc)) ?_
   refine st ?_
   refine ns ?_
   refine AWL.weak (rn [(34, 34), (49, 7)]) ?_ (Zka r97 r77 (ZnO + 1) t sub ZyQ _ hF (ZmX ++ [x92]) (by rw [Zty]; simp) (by rw [ZtM]; simp) hlen78)
   exact (WS.mk (tc (tp (tp (Zd (Zam rfl (WE.refl _)) (Zd (Zam rfl (WE.refl _)) (tc (Zd (Zr (Zdf (ZV hlen78 ZGx))) Zb))))))) (Zf rfl (cc (cc (cc (cc Zh)))) (Zf rfl (cc (cc (cc (cc Zh)))) (Zf rfl (cc Zh) Zc))))
  ·refine nw ?_
   refine ns ?_
   refine AWL.weak (rn [(7, 7), (34, 34)]) ?_ (Zka Zeq r77 (ZnO + 1) t sub ZyQ _ hF (ZmX ++ [x92]) (by rw [Zty]; simp) (by rw [ZtM]; simp) hlen78)
   exact (WS.mk (tc (tp (tp (Zd (Zam rfl (WE.refl _)) (Zd (Zam rfl (WE.refl _)) (tc (Zd (Zr (Zdf (ZV hlen78 ZGx))) Zb))))))) (Zf rfl (cc (cc (cc (cc Zh)))) (Zf rfl (cc (cc (cc (cc Zh)))) (Zf rfl (cc Zh) Zc))))
 ·subst ZDb
  refine nw ?_
  refine AWP.seq ?_
  cases hF

mutual
def ZcT (sub : (List (ByteArray × Za))) (t : Za) : Option (Za) :=
 if (t.fOp == 1) = true then
 ZeS sub (Za.mk 0 (ByteArray.mk #[]) (Zk.mk ([] : List Zk)) ([] : List Za)) t.fName >>= fun r12 =>
 if r12.2 = true then
 Zcl r12.1 >>= fun r14 =>
 some r14
 else
 some t
 else
 if (t.fOp == 4) = true then
 Zc8 ([] : List ByteArray) ([] : List ByteArray) t >>= fun r77 =>
 ZdD ([]) r77 0 t sub r77
 else
 ZbF t 0 ([]) sub t.fKids
 partial_fixpoint
def ZbF (t : Za) (Zk3 : Nat) (ZgB : (List Za)) (sub : (List (ByteArray × Za))) (ZeE : (List Za)) : Option (Za) :=
 (match ZeE with
 | Zy3 :: ZAT =>
 ZcT sub Zy3 >>= fun ZAh =>
 Z5 ((ZgB.length + ([ZAh]).length) * 72 ≤ 140737488355328) >>= fun _ =>
 ZbF t (Zk3 + 1) (ZgB ++ ([ZAh])) sub ZAT
 | [] =>
 some (Za.mk t.fOp t.fName t.fBound ZgB))
 partial_fixpoint
end
def ZcT.M (sub : (List (ByteArray × Za))) (t : Za) (r : Za) : Prop :=
 Zj Tryz.prog 70 [.c none (.rf 1000), .agg [.v (.int .i64 t.fOp), .v (.string t.fName), .sl (t.fBound.fArgs.map Zk.cells), .sl (t.fKids.map Za.cells)]] [(1000, [(none, .ob 183 (sub.map (Zec c_S Za.cells)))])] (fun d b => d = .agg [.v (.int .i64 r.fOp), .v (.string r.fName), .sl (r.fBound.fArgs.map Zk.cells), .sl (r.fKids.map Za.cells)] ∧ b = [(1000, [(none, .ob 183 (sub.map (Zec c_S Za.cells)))])])
def ZbF.M (t : Za) (Zk3 : Nat) (ZgB : (List Za)) (sub : (List (ByteArray × Za))) (ZeE : (List Za)) (r : Za) : Prop :=
 ∀ Zo9 : List Za, t.fKids = Zo9 ++ ZeE → Zk3 = Zo9.length → t.fKids.length ≤ maxLen → AWL Tryz.prog 98 (Code.sub (Zq Tryz.f70) [1, 1, 1, 1, 1, 0, 1, 0, 0]) (Code.cont Tryz.prog 98 (Zq Tryz.f70) [1, 1, 1, 1, 1, 0, 1, 0] (ZbW tab Tryz.f70.results (ZbY (.agg [.v (.int .i64 r.fOp), .v (.string r.fName), .sl (r.fBound.fArgs.map Zk.cells), .sl (r.fKids.map Za.cells)]) [(1000, [(none, .ob 183 (sub.map (Zec c_S Za.cells)))])]))) ⟨[(0, .c none (.rf 1000)), (3, .ptr 3 0), (4, .ptr 4 0), (82, .c none (.sl (t.fKids.map Za.cells))), (83, .c none (.v (.int .i64 ((t.fKids.length : Nat) : Int)))), (84, .c none (.v (.int .i64 ((Zk3 : Nat) : Int))))], [(3, [(none, .v (.int .i64 t.fOp)), (none, .v (.string t.fName)), (none, .sl (t.fBound.fArgs.map Zk.cells)), ((some (4153, 28)), .sl (ZgB.map Za.cells))]), (4, [(none, .v (.int .i64 0)), (none, .v (.string (ByteArray.mk #[]))), (none, .nils), (none, .nils)]), (1000, [(none, .ob 183 (sub.map (Zec c_S Za.cells)))])]⟩
theorem Zl2 (sub : (List (ByteArray × Za))) : (∀ (t : Za), ∀ r, ZcT sub t = some r → ZcT.M sub t r) ∧ (∀ (t : Za) (Zk3 : Nat) (ZgB : (List Za)) (ZeE : (List Za)), ∀ r, ZbF t Zk3 ZgB sub ZeE = some r → ZbF.M t Zk3 ZgB sub ZeE r) := by
 refine ZcT.mutual_partial_correctness sub (fun t r => ZcT.M sub t r) (fun t Zk3 ZgB ZeE r => ZbF.M t Zk3 ZgB sub ZeE r) ?_ ?_
 ·intro types_subst_l2' ZeA t r hF
  have ZhH := fun (t : Za) (Zk3 : Nat) (ZgB : (List Za)) (_sub : (List (ByteArray × Za))) (ZeE : (List Za)) => ZeA t Zk3 ZgB ZeE
  clear ZeA
  unfold ZcT.M
  refine en Tryz.func70 ?_
  refine AWP.seq ?_
  refine ns ?_
  refine AWP.seq ?_
  refine AWP.seq ?_
  refine ns ?_
  refine nw ?_
  refine Zi hF (fun hc8 hF => ?_) (fun hc8 hF => ?_)
  ·refine AWP.seq ?_
   refine AWP.seq ?_
   obtain ⟨r12, ZAo, hF⟩ := bind_some hF
   refine ns ?_
   refine ZhG (m := sub) (k := t.fName) ZhN (ev := Za.cells) ZAo (Za.cells_eq r12.1) (fun x => Za.cells_len x) rfl rfl (ZdA (Za.cells_eq (Za.mk 0 (ByteArray.mk #[]) (Zk.mk ([] : List Zk)) ([] : List Za))) (lc (lc (ZaR WE.nil (ZaR WE.nil Zo))))) ?_
   refine st ?_
   refine AWP.seq ?_
   refine ns ?_
   refine nw ?_
   refine Zi hF (fun ZbE hF => ?_) (fun ZbE hF => ?_)
   ·refine AWP.seq ?_
    obtain ⟨r14, ZqH, hF⟩ := bind_some hF
    refine ns ?_
    refine e3 ?_
    refine st ?_
    refine cm (Zj.weak (rn []) (Zp9 r12.1 _ ZqH) rfl (WS.mk (Zd (Zt (lc (lc (lc (lc Zo))))) Zb) Zc)) ?_
    refine st ?_
    obtain rfl := Zg hF
    refine ns ?_
    refine Exists.intro [(1000, 1000)] ?_
    refine st ?_
    exact wx (WS.mk (Zd (Zt (lc (lc (lc (lc Zo))))) Zb) (Zf rfl (cc Zh) Zc))
   ·refine nw ?_
    refine AWP.seq ?_
    refine ns ?_
    obtain rfl := Zg hF
    refine ns ?_
    refine Exists.intro [(1000, 1000)] ?_
    refine st ?_
    exact wx (WS.mk (Zd (Zt (lc (lc (lc (lc Zo))))) Zb) (Zf rfl (cc Zh) Zc))
  ·refine nw ?_
   refine AWP.seq ?_
   refine AWP.seq ?_
   refine ns ?_
   refine nw ?_
   refine Zi hF (fun ZkE hF => ?_) (fun ZkE hF => ?_)
   ·refine AWP.seq ?_
    refine ns ?_
    refine AWP.seq ?_
    refine AWP.seq ?_
    obtain ⟨r77, ZDy, hF⟩ := bind_some hF
    refine ns ?_
    refine e3 ?_
    refine st ?_
    refine cm (Zj.weak (rn []) (Zky ([] : List ByteArray) ([] : List ByteArray) t _ ZDy) rfl (WS.mk (Zd ZjI (Zd (Zr WE.nil) (Zd (Zt (lc (lc (lc (lc Zo))))) Zb))) Zc)) ?_
    refine st ?_
    intro hlen78
    (try rw [List.length_map] at hlen78)
    (try rw [List.length_map])
    refine st ?_
    refine AWP.block ?_
    refine AWP.loop ?_
    refine AWL.weak (rn [(34, 34)]) ?_ (Zo1 ([]) r77 0 t sub r77 _ hF ([]) rfl rfl hlen78)
    exact (WS.mk (tc (tp (tp (Zd ZjI (Zd (Zam rfl (WE.refl _)) (tc (tc Zb))))))) (Zf rfl (cc (cc (cc (cc Zh)))) (Zf rfl (cc (cc (cc (cc Zh)))) (Zf rfl (cc Zh) Zc))))
   ·refine nw ?_
    refine AWP.seq ?_
    refine ns ?_
    refine AWP.seq ?_
    refine ns ?_
    refine AWP.seq ?_
    refine AWP.seq ?_
    refine ns ?_
    intro hlen138
    (try rw [List.length_map] at hlen138)
    (try rw [List.length_map])
    refine st ?_
    refine AWP.block ?_
    refine AWP.loop ?_
    refine AWL.weak (rn []) ?_ (ZhH t 0 ([]) sub t.fKids _ hF ([]) rfl rfl hlen138)
    exact (WS.mk (tc (tp (tp (tc (tc (tc Zb)))))) (Zf rfl (cc (cc (cc (Znm Zh)))) (Zf rfl (cc (cc (cc (cc Zh)))) (Zf rfl (cc Zh) Zc))))
 ·intro types_subst' types_subst_l2' ZlZ ZeA t Zk3 ZgB ZeE r hF
  have Zr2 := fun (_sub : (List (ByteArray × Za))) (t : Za) => ZlZ t
  clear ZlZ
  have ZhH := fun (t : Za) (Zk3 : Nat) (ZgB : (List Za)) (_sub : (List (ByteArray × Za))) (ZeE : (List Za)) => ZeA t Zk3 ZgB ZeE
  clear ZeA
  unfold ZbF.M
  intro Zo9 Zxc ZwA hlen138
  refine AWL.step ?_
  refine AWP.seq ?_
  refine ns ?_
  refine AWP.seq ?_
  refine nw ?_
  refine ZN Zxc ZwA (fun Zy3 ZAT Zyv ZEP ZFl => ?_) (fun Zyv => ?_)
  ·subst Zyv
   refine nw ?_
   refine AWP.seq ?_
   refine AWP.block ?_
   refine AWP.seq ?_
   refine nn ?_
   refine sr (Zab (f := Za.cells) (Za.cells_eq Zy3) ZEP) ?_
   refine st ?_
   obtain ⟨ZAh, ZFo, hF⟩ := bind_some hF
   obtain ⟨ZFH, hF⟩ := Zy hF
   refine nn ?_
   refine Or.inl (Exists.intro 6 (Exists.intro [[], [], [], [], [1000], []] (Exists.intro [([88, 89, 90, 91, 92, 93], [1000], []), ([89, 90, 91, 92, 93], [1000], []), ([88, 89, 90, 91, 92, 93], [], []), ([88, 89, 90, 91, 92, 93], [], []), ([88, 89, 92, 93], [], [1000]), ([88, 89, 93], [], [])] (Exists.intro [88, 89, 90, 91, 92, 93] (And.intro (by decide +kernel) ?_)))))
   refine dp ?_
   refine dp ?_
   refine dp ?_
   refine dp ?_
   (refine st ?_; apply Exists.intro; apply Exists.intro; apply And.intro; (focus ((conv => whnf); refine Exists.intro [(1000, 1000)] ?_; (conv => whnf); refine And.intro rfl ?_; (conv => whnf); refine Zj.mono (Zj.weak (rn []) (Zr2 sub Zy3 _ ZFo) rfl (WS.mk (tc (Zd (Zt (lc (lc (lc (lc Zo))))) Zb)) (Zf rfl (cc Zh) Zc))) ?_; rintro d b ⟨rfl, rfl⟩; exact And.intro rfl (And.intro rfl rfl))); apply And.intro; (focus exact rfl); (conv => whnf))
   refine de (Zbt (f := Za.cells) (ZdA (Za.cells_eq ZAh) (lc (lc (lc (lc Zo))))) (ZY (f := Za.cells))) ?_
   refine sa (fun l => ZbU l (fun x => Za.cells_len x)) ZFH ?_
   refine Exists.intro _ (And.intro (WE.refl _) ?_)
   rw [← List.map_append]
   refine st ?_
   refine ns ?_
   refine AWL.weak (rn [(94, 4153)]) ?_ (ZhH t (Zk3 + 1) (ZgB ++ ([ZAh])) sub ZAT _ hF (Zo9 ++ [Zy3]) (by rw [Zxc]; simp) (by rw [ZwA]; simp) hlen138)
   exact (WS.mk (tc (tp (tp (tc (tc (Zd (Zr (Zdf (ZV hlen138 ZFl))) Zb)))))) (Zf rfl (cc (cc (cc (Zth rfl (WE.refl _) Zh)))) (Zf rfl (cc (cc (cc (cc Zh)))) (Zf rfl (cc Zh) Zc))))
  ·subst Zyv
   refine nw ?_
   refine AWP.seq ?_
   refine ns ?_
   obtain rfl := Zg hF
   refine ns ?_
   refine Exists.intro [(1000, 1000)] ?_
   refine st ?_
   exact wx (WS.mk (Zd (Zt (lc (lc (lc (lc Zo))))) Zb) (Zf rfl (cc Zh) Zc))
theorem ZmH : ∀ (sub : (List (ByteArray × Za))) (t : Za), ∀ r, ZcT sub t = some r → ZcT.M sub t r := fun sub t => (Zl2 sub).1 t
theorem types_subst_l2_ok : ∀ (t : Za) (Zk3 : Nat) (ZgB : (List Za)) (sub : (List (ByteArray × Za))) (ZeE : (List Za)), ∀ r, ZbF t Zk3 ZgB sub ZeE = some r → ZbF.M t Zk3 ZgB sub ZeE r := fun t Zk3 ZgB sub ZeE => (Zl2 sub).2 t Zk3 ZgB ZeE

def Zct (s : (List Ze)) (Zf6 : Nat) (t : Za) (Zbl : (List (ByteArray × Za))) (Zdq : (List Ze)) : Option (Za) :=
 (match Zdq with
 | x73 :: ZqZ =>
 Za9 x73.fName >>= fun r80 =>
 (if (!r80) = true then some true else Zcj x73.fType >>= fun r81 =>
 some (r81 != 0)) >>= fun c82 =>
 if c82 = true then
 some (Za.mk 0 (ByteArray.mk #[]) (Zk.mk ([] : List Zk)) ([] : List Za))
 else
 ZeS Zbl (Za.mk 0 (ByteArray.mk #[]) (Zk.mk ([] : List Zk)) ([] : List Za)) x73.fName >>= fun r85 =>
 if (!r85.2) = true then
 Zct s (Zf6 + 1) t (ZhW Zbl x73.fName x73.fType) ZqZ
 else
 Zct s (Zf6 + 1) t Zbl ZqZ
 | [] =>
 ZbV Zbl t >>= fun r89 =>
 if ((decide (r89.1 > 20000)) || (decide (r89.2 > 100))) = true then
 some (Za.mk 0 (ByteArray.mk #[]) (Zk.mk ([] : List Zk)) ([] : List Za))
 else
 ZcT Zbl t >>= fun r92 =>
 some r92)
 partial_fixpoint
def Zct.M (s : (List Ze)) (Zf6 : Nat) (t : Za) (Zbl : (List (ByteArray × Za))) (Zdq : (List Ze)) (r : Za) : Prop :=
 ∀ Zf2 : List Ze, s = Zf2 ++ Zdq → Zf6 = Zf2.length → s.length ≤ maxLen → AWL Tryz.prog 65 (Code.sub (Zq Tryz.f44) [1, 1, 1, 0, 1, 0, 0]) (Code.cont Tryz.prog 65 (Zq Tryz.f44) [1, 1, 1, 0, 1, 0] (ZbW tab Tryz.f44.results (ZbY (.agg [.v (.int .i64 r.fOp), .v (.string r.fName), .sl (r.fBound.fArgs.map Zk.cells), .sl (r.fKids.map Za.cells)]) [(1000, [(none, .ob 90 (s.map Ze.cells))])]))) ⟨[(3, .ptr 3 0), (4, .ptr 4 0), (5, .c none (.rf 16)), (17, .c none (.rs 1000 s.length)), (18, .c none (.v (.int .i64 ((s.length : Nat) : Int)))), (19, .c none (.v (.int .i64 ((Zf6 : Nat) : Int))))], [(3, [(none, .v (.int .i64 t.fOp)), (none, .v (.string t.fName)), (none, .sl (t.fBound.fArgs.map Zk.cells)), (none, .sl (t.fKids.map Za.cells))]), (4, [(none, .v (.int .i64 0)), (none, .v (.string (ByteArray.mk #[]))), (none, .nils), (none, .nils)]), (16, [(none, .ob 183 (Zbl.map (Zec c_S Za.cells)))]), (1000, [(none, .ob 90 (s.map Ze.cells))])]⟩
theorem Zox (s : (List Ze)) (Zf6 : Nat) (t : Za) (Zbl : (List (ByteArray × Za))) (Zdq : (List Ze)) : ∀ r, Zct s Zf6 t Zbl Zdq = some r → Zct.M s Zf6 t Zbl Zdq r := by
 refine Zct.partial_correctness s t (fun Zf6 Zbl Zdq r => Zct.M s Zf6 t Zbl Zdq r) ?_ Zf6 Zbl Zdq
 intro types_Subst_l1' ZjF Zf6 Zbl Zdq r hF
 have Zkh := fun (_s : (List Ze)) (Zf6 : Nat) (_t : Za) (Zbl : (List (ByteArray × Za))) (Zdq : (List Ze)) => ZjF Zf6 Zbl Zdq
 clear ZjF
 unfold Zct.M
 intro Zf2 Zlu ZlM hlen45
 refine AWL.step ?_
 refine AWP.seq ?_
 refine ns ?_
 refine AWP.seq ?_
 refine nw ?_
 refine ZN Zlu ZlM (fun x73 ZqZ ZvI ZBm ZAF => ?_) (fun ZvI => ?_)
 ·subst ZvI
  refine nw ?_
  refine AWP.seq ?_
  refine AWP.block ?_
  refine AWP.seq ?_
  refine ns ?_
  refine And.intro (Zt5 ZBm) ?_
  refine st ?_
  refine sr (Zab (f := Ze.cells) (Ze.cells_eq x73) ZBm) ?_
  refine st ?_
  refine AWP.seq ?_
  refine AWP.seq ?_
  obtain ⟨r80, ZEs, hF⟩ := bind_some hF
  obtain ⟨c82, ZhO, hF⟩ := bind_some hF
  refine AWP.cutN (fun T => ∃ r, WS r T ⟨[(3, .ptr 3 0), (4, .ptr 4 0), (5, .c none (.rf 16)), (7, .ptr 7 0), (17, .c none (.rs 1000 s.length)), (18, .c none (.v (.int .i64 ((s.length : Nat) : Int)))), (19, .c none (.v (.int .i64 ((Zf6 : Nat) : Int)))), (32, .c none (.v (.bool c82)))], [(3, [(none, .v (.int .i64 t.fOp)), (none, .v (.string t.fName)), (none, .sl (t.fBound.fArgs.map Zk.cells)), (none, .sl (t.fKids.map Za.cells))]), (4, [(none, .v (.int .i64 0)), (none, .v (.string (ByteArray.mk #[]))), (none, .nils), (none, .nils)]), (7, [(none, .v (.string x73.fName)), (none, .v (.int .i64 x73.fType.fOp)), (none, .v (.string x73.fType.fName)), (none, .sl (x73.fType.fBound.fArgs.map Zk.cells)), (none, .sl (x73.fType.fKids.map Za.cells))]), (16, [(none, .ob 183 (Zbl.map (Zec c_S Za.cells)))]), (1000, [(none, .ob 90 (s.map Ze.cells))])]⟩) ?_ (fun T hw => ?_)
  ·refine ns ?_
   refine e3 ?_
   refine st ?_
   refine cm (Zj.weak (rn []) (ZfD x73.fName _ ZEs) rfl (WS.mk (tc Zb) Zc)) ?_
   refine st ?_
   refine Zm false (fun Zkw => ?_) (fun Zkw => ?_)
   ·have ZhO := ift Zkw ZhO
    (conv => whnf)
    obtain rfl := Zg ZhO
    refine st ?_
    exact wx (WS.mk (tp (tp (tc (tp (Zd (Zr (Zaf (by first | exact rfl | simp only [List.length_set]))) (tc (tc (Zd (Zr (web Zkw)) Zb)))))))) (Zf rfl (cc (cc (cc (cc Zh)))) (Zf rfl (cc (cc (cc (cc Zh)))) (Zf rfl (cc (cc (cc (cc (cc Zh))))) (Zf rfl (cc Zh) (Zf rfl (cc Zh) Zc))))))
   ·have ZhO := ife Zkw ZhO
    obtain ⟨r81, ZAA, ZhO⟩ := bind_some ZhO
    (conv => whnf)
    refine st ?_
    refine e3 ?_
    refine st ?_
    refine cm (Zj.weak (rn []) (Zfe x73.fType _ ZAA) rfl (WS.mk (Zd (Zt (lc (lc (lc (lc Zo))))) Zb) Zc)) ?_
    refine st ?_
    obtain rfl := Zg ZhO
    refine st ?_
    exact wx (WS.mk (tp (tp (tc (tp (Zd (Zr (Zaf (by first | exact rfl | simp only [List.length_set]))) (tc (tc (Zd (Zr (web Zkw)) Zb)))))))) (Zf rfl (cc (cc (cc (cc Zh)))) (Zf rfl (cc (cc (cc (cc Zh)))) (Zf rfl (cc (cc (cc (cc (cc Zh))))) (Zf rfl (cc Zh) (Zf rfl (cc Zh) Zc))))))
  obtain ⟨r0, hw⟩ := hw
  (conv => whnf)
  refine AWP.weak r0 hw ?_
  refine nw ?_
  refine Zi hF (fun ZpQ hF => ?_) (fun ZpQ hF => ?_)
  ·refine AWP.seq ?_
   refine ns ?_
   obtain rfl := Zg hF
   refine ns ?_
   refine Exists.intro [(1000, 1000)] ?_
   refine st ?_
   exact wx (WS.mk (Zd (Zt (lc (lc (ZaR WE.nil (ZaR WE.nil Zo))))) Zb) (Zf rfl (cc Zh) Zc))
  ·refine nw ?_
   refine AWP.seq ?_
   obtain ⟨r85, ZCL, hF⟩ := bind_some hF
   refine ns ?_
   refine ZhG (m := Zbl) (k := x73.fName) ZhN (ev := Za.cells) ZCL (Za.cells_eq r85.1) (fun x => Za.cells_len x) rfl rfl (ZdA (Za.cells_eq (Za.mk 0 (ByteArray.mk #[]) (Zk.mk ([] : List Zk)) ([] : List Za))) (lc (lc (ZaR WE.nil (ZaR WE.nil Zo))))) ?_
   refine st ?_
   refine AWP.seq ?_
   refine ns ?_
   refine nw ?_
   refine Zi hF (fun ZEj hF => ?_) (fun ZEj hF => ?_)
   ·refine ns ?_
    refine Zo3 (m := Zbl) (k := x73.fName) (v := x73.fType) ZhN (ev := Za.cells) (ZdA (Za.cells_eq x73.fType) (lc (lc (lc (lc Zo))))) ?_
    refine st ?_
    refine ns ?_
    refine AWL.weak (rn []) ?_ (Zkh s (Zf6 + 1) t (ZhW Zbl x73.fName x73.fType) ZqZ _ hF (Zf2 ++ [x73]) (by rw [Zlu]; simp) (by rw [ZlM]; simp) hlen45)
    exact (WS.mk (tp (tp (tc (Zd (Zr (Zaf (by first | exact rfl | simp only [List.length_set]))) (tc (Zd (Zr (Zdf (ZV hlen45 ZAF))) Zb)))))) (Zf rfl (cc (cc (cc (cc Zh)))) (Zf rfl (cc (cc (cc (cc Zh)))) (Zf rfl (cc Zh) (Zf rfl (cc Zh) Zc)))))
   ·refine nw ?_
    refine ns ?_
    refine AWL.weak (rn []) ?_ (Zkh s (Zf6 + 1) t Zbl ZqZ _ hF (Zf2 ++ [x73]) (by rw [Zlu]; simp) (by rw [ZlM]; simp) hlen45)
    exact (WS.mk (tp (tp (tc (Zd (Zr (Zaf (by first | exact rfl | simp only [List.length_set]))) (tc (Zd (Zr (Zdf (ZV hlen45 ZAF))) Zb)))))) (Zf rfl (cc (cc (cc (cc Zh)))) (Zf rfl (cc (cc (cc (cc Zh)))) (Zf rfl (cc Zh) (Zf rfl (cc Zh) Zc)))))
 ·subst ZvI
  refine nw ?_
  refine AWP.seq ?_
  refine AWP.seq ?_
  obtain ⟨r89, ZEi, hF⟩ := bind_some hF
  refine ns ?_
  refine Exists.intro [] (Exists.intro [(16, 1000)] (Exists.intro [] ?_))
  refine st ?_
  refine cm (Zj.weak (rn []) (ZkJ Zbl t _ ZEi) rfl (WS.mk (tc (Zd (Zt (lc (lc (lc (lc Zo))))) Zb)) (Zf rfl (cc Zh) Zc))) ?_
  refine st ?_
  refine AWP.seq ?_
  refine AWP.cutN (fun T => ∃ r, WS r T ⟨[(3, .ptr 3 0), (4, .ptr 4 0), (5, .c none (.rf 16)), (60, .c none (.v (.bool ((decide (r89.1 > 20000)) || (decide (r89.2 > 100))))))], [(3, [(none, .v (.int .i64 t.fOp)), (none, .v (.string t.fName)), (none, .sl (t.fBound.fArgs.map Zk.cells)), (none, .sl (t.fKids.map Za.cells))]), (4, [(none, .v (.int .i64 0)), (none, .v (.string (ByteArray.mk #[]))), (none, .nils), (none, .nils)]), (16, [(none, .ob 183 (Zbl.map (Zec c_S Za.cells)))]), (1000, [(none, .ob 90 (s.map Ze.cells))])]⟩) ?_ (fun T hw => ?_)
  ·refine ns ?_
   refine Zm false (fun ZvW => ?_) (fun ZvW => ?_)
   ·(conv => whnf)
    refine st ?_
    exact wx (WS.mk (tp (tp (tc (Zd (Zr (web ZvW)) Zb)))) (Zf rfl (cc (cc (cc (cc Zh)))) (Zf rfl (cc (cc (cc (cc Zh)))) (Zf rfl (cc Zh) (Zf rfl (cc Zh) Zc)))))
   ·(conv => whnf)
    refine st ?_
    exact wx (WS.mk (tp (tp (tc (Zd (Zr (web ZvW)) Zb)))) (Zf rfl (cc (cc (cc (cc Zh)))) (Zf rfl (cc (cc (cc (cc Zh)))) (Zf rfl (cc Zh) (Zf rfl (cc Zh) Zc)))))
  obtain ⟨r0, hw⟩ := hw
  (conv => whnf)
  refine AWP.weak r0 hw ?_
  refine nw ?_
  refine Zi hF (fun ZEc hF => ?_) (fun ZEc hF => ?_)
  ·refine AWP.seq ?_
   refine ns ?_
   obtain rfl := Zg hF
   refine ns ?_
   refine Exists.intro [(1000, 1000)] ?_
   refine st ?_
   exact wx (WS.mk (Zd (Zt (lc (lc (ZaR WE.nil (ZaR WE.nil Zo))))) Zb) (Zf rfl (cc Zh) Zc))
  ·refine nw ?_
   refine AWP.seq ?_
   obtain ⟨r92, Zwo, hF⟩ := bind_some hF
   refine ns ?_
   refine Exists.intro [] (Exists.intro [(16, 1000)] (Exists.intro [] ?_))
   refine st ?_
   refine cm (Zj.weak (rn []) (ZmH Zbl t _ Zwo) rfl (WS.mk (tc (Zd (Zt (lc (lc (lc (lc Zo))))) Zb)) (Zf rfl (cc Zh) Zc))) ?_
   refine st ?_
   obtain rfl := Zg hF
   refine ns ?_
   refine Exists.intro [(1000, 1000)] ?_
   refine st ?_
   exact wx (WS.mk (Zd (Zt (lc (lc (lc (lc Zo))))) Zb) (Zf rfl (cc Zh) Zc))

def ZeO (s : (List Ze)) (t : Za) : Option (Za) :=
 Zcj t >>= fun r3 =>
 if (r3 != 0) = true then
 some (Za.mk 0 (ByteArray.mk #[]) (Zk.mk ([] : List Zk)) ([] : List Za))
 else
 Zct s 0 t ([] : List (ByteArray × Za)) s
def ZeO.M (s : (List Ze)) (t : Za) (r : Za) : Prop :=
 Zj Tryz.prog 44 [.c none (.rs 1000 s.length), .agg [.v (.int .i64 t.fOp), .v (.string t.fName), .sl (t.fBound.fArgs.map Zk.cells), .sl (t.fKids.map Za.cells)]] [(1000, [(none, .ob 90 (s.map Ze.cells))])] (fun d b => d = .agg [.v (.int .i64 r.fOp), .v (.string r.fName), .sl (r.fBound.fArgs.map Zk.cells), .sl (r.fKids.map Za.cells)] ∧ b = [(1000, [(none, .ob 90 (s.map Ze.cells))])])
theorem ZrJ (s : (List Ze)) (t : Za) (r : Za) (hF : ZeO s t = some r) : ZeO.M s t r := by
 unfold ZeO at hF
 unfold ZeO.M
 refine en Tryz.func44 ?_
 refine AWP.seq ?_
 refine ns ?_
 refine AWP.seq ?_
 refine AWP.seq ?_
 obtain ⟨r3, hr3, hF⟩ := bind_some hF
 refine ns ?_
 refine e3 ?_
 refine st ?_
 refine cm (Zj.weak (rn []) (Zfe t _ hr3) rfl (WS.mk (Zd (Zt (lc (lc (lc (lc Zo))))) Zb) Zc)) ?_
 refine st ?_
 refine nw ?_
 refine Zi hF (fun hc4 hF => ?_) (fun hc4 hF => ?_)
 ·refine AWP.seq ?_
  refine ns ?_
  obtain rfl := Zg hF
  refine ns ?_
  refine Exists.intro [(1000, 1000)] ?_
  refine st ?_
  exact wx (WS.mk (Zd (Zt (lc (lc (ZaR WE.nil (ZaR WE.nil Zo))))) Zb) (Zf rfl (cc Zh) Zc))
 ·refine nw ?_
  refine AWP.seq ?_
  refine ns ?_
  refine AWP.seq ?_
  refine AWP.seq ?_
  refine ns ?_
  intro hlen45
  (try rw [List.length_map] at hlen45)
  (try rw [List.length_map])
  refine st ?_
  refine AWP.block ?_
  refine AWP.loop ?_
  refine AWL.weak (rn []) ?_ (Zox s 0 t ([] : List (ByteArray × Za)) s _ hF ([]) rfl rfl hlen45)
  exact (WS.mk (tp (tp (tc (Zd (Zr (Zaf (by first | exact rfl | simp only [List.length_set]))) (tc (tc Zb)))))) (Zf rfl (cc (cc (cc (cc Zh)))) (Zf rfl (cc (cc (cc (cc Zh)))) (Zf rfl (cc Zh) (Zf rfl (cc Zh) Zc)))))

def Zb5 (s : (List Ze)) (Zf6 : Nat) (t : Za) (Zbl : (List (ByteArray × Za))) (Zdq : (List Ze)) : Option (Za) :=
 (match Zdq with
 | x73 :: ZqZ =>
 Za9 x73.fName >>= fun r80 =>
 (if (!r80) = true then some true else Zcj x73.fType >>= fun r81 =>
 some (r81 != 0)) >>= fun c82 =>
 if c82 = true then
 some (Za.mk 0 (ByteArray.mk #[]) (Zk.mk ([] : List Zk)) ([] : List Za))
 else
 ZeS Zbl (Za.mk 0 (ByteArray.mk #[]) (Zk.mk ([] : List Zk)) ([] : List Za)) x73.fName >>= fun r85 =>
 if (!r85.2) = true then
 Zb5 s (Zf6 + 1) t (ZhW Zbl x73.fName x73.fType) ZqZ
 else
 Zb5 s (Zf6 + 1) t Zbl ZqZ
 | [] =>
 ZbV Zbl t >>= fun r89 =>
 if ((decide (r89.1 > 20000)) || (decide (r89.2 > 100))) = true then
 some (Za.mk 0 (ByteArray.mk #[]) (Zk.mk ([] : List Zk)) ([] : List Za))
 else
 ZcT Zbl t >>= fun r92 =>
 some r92)
 partial_fixpoint
def Zb5.M (s : (List Ze)) (Zf6 : Nat) (t : Za) (Zbl : (List (ByteArray × Za))) (Zdq : (List Ze)) (r : Za) : Prop :=
 ∀ Zf2 : List Ze, s = Zf2 ++ Zdq → Zf6 = Zf2.length → s.length ≤ maxLen → AWL Tryz.prog 65 (Code.sub (Zq Tryz.f44) [1, 1, 1, 0, 1, 0, 0]) (Code.cont Tryz.prog 65 (Zq Tryz.f44) [1, 1, 1, 0, 1, 0] (ZbW tab Tryz.f44.results (ZbY (.agg [.v (.int .i64 r.fOp), .v (.string r.fName), .sl (r.fBound.fArgs.map Zk.cells), .sl (r.fKids.map Za.cells)]) []))) ⟨[(3, .ptr 3 0), (4, .ptr 4 0), (5, .c none (.rf 16)), (17, .c none (.sl (s.map Ze.cells))), (18, .c none (.v (.int .i64 ((s.length : Nat) : Int)))), (19, .c none (.v (.int .i64 ((Zf6 : Nat) : Int))))], [(3, [(none, .v (.int .i64 t.fOp)), (none, .v (.string t.fName)), (none, .sl (t.fBound.fArgs.map Zk.cells)), (none, .sl (t.fKids.map Za.cells))]), (4, [(none, .v (.int .i64 0)), (none, .v (.string (ByteArray.mk #[]))), (none, .nils), (none, .nils)]), (16, [(none, .ob 183 (Zbl.map (Zec c_S Za.cells)))])]⟩
theorem Zon (s : (List Ze)) (Zf6 : Nat) (t : Za) (Zbl : (List (ByteArray × Za))) (Zdq : (List Ze)) : ∀ r, Zb5 s Zf6 t Zbl Zdq = some r → Zb5.M s Zf6 t Zbl Zdq r := by
 refine Zb5.partial_correctness s t (fun Zf6 Zbl Zdq r => Zb5.M s Zf6 t Zbl Zdq r) ?_ Zf6 Zbl Zdq
 intro types_Subst__l1' ZiV Zf6 Zbl Zdq r hF
 have ZjR := fun (_s : (List Ze)) (Zf6 : Nat) (_t : Za) (Zbl : (List (ByteArray × Za))) (Zdq : (List Ze)) => ZiV Zf6 Zbl Zdq
 clear ZiV
 unfold Zb5.M
 intro Zf2 Zlu ZlM hlen45
 refine AWL.step ?_
 refine AWP.seq ?_
 refine ns ?_
 refine AWP.seq ?_
 refine nw ?_
 refine ZN Zlu ZlM (fun x73 ZqZ ZvI ZBm ZAF => ?_) (fun ZvI => ?_)
 ·subst ZvI
  refine nw ?_
  refine AWP.seq ?_
  refine AWP.block ?_
  refine AWP.seq ?_
  refine nn ?_
  refine sr (Zab (f := Ze.cells) (Ze.cells_eq x73) ZBm) ?_
  refine st ?_
  refine AWP.seq ?_
  refine AWP.seq ?_
  obtain ⟨r80, ZEs, hF⟩ := bind_some hF
  obtain ⟨c82, ZhO, hF⟩ := bind_some hF
  refine AWP.cutN (fun T => ∃ r, WS r T ⟨[(3, .ptr 3 0), (4, .ptr 4 0), (5, .c none (.rf 16)), (7, .ptr 7 0), (17, .c none (.sl (s.map Ze.cells))), (18, .c none (.v (.int .i64 ((s.length : Nat) : Int)))), (19, .c none (.v (.int .i64 ((Zf6 : Nat) : Int)))), (32, .c none (.v (.bool c82)))], [(3, [(none, .v (.int .i64 t.fOp)), (none, .v (.string t.fName)), (none, .sl (t.fBound.fArgs.map Zk.cells)), (none, .sl (t.fKids.map Za.cells))]), (4, [(none, .v (.int .i64 0)), (none, .v (.string (ByteArray.mk #[]))), (none, .nils), (none, .nils)]), (7, [(none, .v (.string x73.fName)), (none, .v (.int .i64 x73.fType.fOp)), (none, .v (.string x73.fType.fName)), (none, .sl (x73.fType.fBound.fArgs.map Zk.cells)), (none, .sl (x73.fType.fKids.map Za.cells))]), (16, [(none, .ob 183 (Zbl.map (Zec c_S Za.cells)))])]⟩) ?_ (fun T hw => ?_)
  ·refine ns ?_
   refine e3 ?_
   refine st ?_
   refine cm (Zj.weak (rn []) (ZfD x73.fName _ ZEs) rfl (WS.mk (tc Zb) Zc)) ?_
   refine st ?_
   refine Zm false (fun Zkw => ?_) (fun Zkw => ?_)
   ·have ZhO := ift Zkw ZhO
    (conv => whnf)
    obtain rfl := Zg ZhO
    refine st ?_
    exact wx (WS.mk (tp (tp (tc (tp (tc (tc (tc (Zd (Zr (web Zkw)) Zb)))))))) (Zf rfl (cc (cc (cc (cc Zh)))) (Zf rfl (cc (cc (cc (cc Zh)))) (Zf rfl (cc (cc (cc (cc (cc Zh))))) (Zf rfl (cc Zh) Zc)))))
   ·have ZhO := ife Zkw ZhO
    obtain ⟨r81, ZAA, ZhO⟩ := bind_some ZhO
    (conv => whnf)
    refine st ?_
    refine e3 ?_
    refine st ?_
    refine cm (Zj.weak (rn []) (Zfe x73.fType _ ZAA) rfl (WS.mk (Zd (Zt (lc (lc (lc (lc Zo))))) Zb) Zc)) ?_
    refine st ?_
    obtain rfl := Zg ZhO
    refine st ?_
    exact wx (WS.mk (tp (tp (tc (tp (tc (tc (tc (Zd (Zr (web Zkw)) Zb)))))))) (Zf rfl (cc (cc (cc (cc Zh)))) (Zf rfl (cc (cc (cc (cc Zh)))) (Zf rfl (cc (cc (cc (cc (cc Zh))))) (Zf rfl (cc Zh) Zc)))))
  obtain ⟨r0, hw⟩ := hw
  (conv => whnf)
  refine AWP.weak r0 hw ?_
  refine nw ?_
  refine Zi hF (fun ZpQ hF => ?_) (fun ZpQ hF => ?_)
  ·refine AWP.seq ?_
   refine ns ?_
   obtain rfl := Zg hF
   refine ns ?_
   refine Exists.intro [] ?_
   refine st ?_
   exact wx (WS.mk (Zd (Zt (lc (lc (ZaR WE.nil (ZaR WE.nil Zo))))) Zb) Zc)
  ·refine nw ?_
   refine AWP.seq ?_
   obtain ⟨r85, ZCL, hF⟩ := bind_some hF
   refine ns ?_
   refine ZhG (m := Zbl) (k := x73.fName) ZhN (ev := Za.cells) ZCL (Za.cells_eq r85.1) (fun x => Za.cells_len x) rfl rfl (ZdA (Za.cells_eq (Za.mk 0 (ByteArray.mk #[]) (Zk.mk ([] : List Zk)) ([] : List Za))) (lc (lc (ZaR WE.nil (ZaR WE.nil Zo))))) ?_
   refine st ?_
   refine AWP.seq ?_
   refine ns ?_
   refine nw ?_
   refine Zi hF (fun ZEj hF => ?_) (fun ZEj hF => ?_)
   ·refine ns ?_
    refine Zo3 (m := Zbl) (k := x73.fName) (v := x73.fType) ZhN (ev := Za.cells) (ZdA (Za.cells_eq x73.fType) (lc (lc (lc (lc Zo))))) ?_
    refine st ?_
    refine ns ?_
    refine AWL.weak (rn []) ?_ (ZjR s (Zf6 + 1) t (ZhW Zbl x73.fName x73.fType) ZqZ _ hF (Zf2 ++ [x73]) (by rw [Zlu]; simp) (by rw [ZlM]; simp) hlen45)
    exact (WS.mk (tp (tp (tc (tc (tc (Zd (Zr (Zdf (ZV hlen45 ZAF))) Zb)))))) (Zf rfl (cc (cc (cc (cc Zh)))) (Zf rfl (cc (cc (cc (cc Zh)))) (Zf rfl (cc Zh) Zc))))
   ·refine nw ?_
    refine ns ?_
    refine AWL.weak (rn []) ?_ (ZjR s (Zf6 + 1) t Zbl ZqZ _ hF (Zf2 ++ [x73]) (by rw [Zlu]; simp) (by rw [ZlM]; simp) hlen45)
    exact (WS.mk (tp (tp (tc (tc (tc (Zd (Zr (Zdf (ZV hlen45 ZAF))) Zb)))))) (Zf rfl (cc (cc (cc (cc Zh)))) (Zf rfl (cc (cc (cc (cc Zh)))) (Zf rfl (cc Zh) Zc))))
 ·subst ZvI
  refine nw ?_
  refine AWP.seq ?_
  refine AWP.seq ?_
  obtain ⟨r89, ZEi, hF⟩ := bind_some hF
  refine ns ?_
  refine Exists.intro [] (Exists.intro [(16, 1000)] (Exists.intro [] ?_))
  refine st ?_
  refine cm (Zj.weak (rn []) (ZkJ Zbl t _ ZEi) rfl (WS.mk (tc (Zd (Zt (lc (lc (lc (lc Zo))))) Zb)) (Zf rfl (cc Zh) Zc))) ?_
  refine st ?_
  refine AWP.seq ?_
  refine AWP.cutN (fun T => ∃ r, WS r T ⟨[(3, .ptr 3 0), (4, .ptr 4 0), (5, .c none (.rf 16)), (60, .c none (.v (.bool ((decide (r89.1 > 20000)) || (decide (r89.2 > 100))))))], [(3, [(none, .v (.int .i64 t.fOp)), (none, .v (.string t.fName)), (none, .sl (t.fBound.fArgs.map Zk.cells)), (none, .sl (t.fKids.map Za.cells))]), (4, [(none, .v (.int .i64 0)), (none, .v (.string (ByteArray.mk #[]))), (none, .nils), (none, .nils)]), (16, [(none, .ob 183 (Zbl.map (Zec c_S Za.cells)))])]⟩) ?_ (fun T hw => ?_)
  ·refine ns ?_
   refine Zm false (fun ZvW => ?_) (fun ZvW => ?_)
   ·(conv => whnf)
    refine st ?_
    exact wx (WS.mk (tp (tp (tc (Zd (Zr (web ZvW)) Zb)))) (Zf rfl (cc (cc (cc (cc Zh)))) (Zf rfl (cc (cc (cc (cc Zh)))) (Zf rfl (cc Zh) Zc))))
   ·(conv => whnf)
    refine st ?_
    exact wx (WS.mk (tp (tp (tc (Zd (Zr (web ZvW)) Zb)))) (Zf rfl (cc (cc (cc (cc Zh)))) (Zf rfl (cc (cc (cc (cc Zh)))) (Zf rfl (cc Zh) Zc))))
  obtain ⟨r0, hw⟩ := hw
  (conv => whnf)
  refine AWP.weak r0 hw ?_
  refine nw ?_
  refine Zi hF (fun ZEc hF => ?_) (fun ZEc hF => ?_)
  ·refine AWP.seq ?_
   refine ns ?_
   obtain rfl := Zg hF
   refine ns ?_
   refine Exists.intro [] ?_
   refine st ?_
   exact wx (WS.mk (Zd (Zt (lc (lc (ZaR WE.nil (ZaR WE.nil Zo))))) Zb) Zc)
  ·refine nw ?_
   refine AWP.seq ?_
   obtain ⟨r92, Zwo, hF⟩ := bind_some hF
   refine ns ?_
   refine Exists.intro [] (Exists.intro [(16, 1000)] (Exists.intro [] ?_))
   refine st ?_
   refine cm (Zj.weak (rn []) (ZmH Zbl t _ Zwo) rfl (WS.mk (tc (Zd (Zt (lc (lc (lc (lc Zo))))) Zb)) (Zf rfl (cc Zh) Zc))) ?_
   refine st ?_
   obtain rfl := Zg hF
   refine ns ?_
   refine Exists.intro [] ?_
   refine st ?_
   exact wx (WS.mk (Zd (Zt (lc (lc (lc (lc Zo))))) Zb) Zc)

def Zeg (s : (List Ze)) (t : Za) : Option (Za) :=
 Zcj t >>= fun r3 =>
 if (r3 != 0) = true then
 some (Za.mk 0 (ByteArray.mk #[]) (Zk.mk ([] : List Zk)) ([] : List Za))
 else
 Zb5 s 0 t ([] : List (ByteArray × Za)) s
def Zeg.M (s : (List Ze)) (t : Za) (r : Za) : Prop :=
 Zj Tryz.prog 44 [.c none (.sl (s.map Ze.cells)), .agg [.v (.int .i64 t.fOp), .v (.string t.fName), .sl (t.fBound.fArgs.map Zk.cells), .sl (t.fKids.map Za.cells)]] [] (fun d b => d = .agg [.v (.int .i64 r.fOp), .v (.string r.fName), .sl (r.fBound.fArgs.map Zk.cells), .sl (r.fKids.map Za.cells)] ∧ b = [])
theorem Zqn (s : (List Ze)) (t : Za) (r : Za) (hF : Zeg s t = some r) : Zeg.M s t r := by
 unfold Zeg at hF
 unfold Zeg.M
 refine en Tryz.func44 ?_
 refine AWP.seq ?_
 refine ns ?_
 refine AWP.seq ?_
 refine AWP.seq ?_
 obtain ⟨r3, hr3, hF⟩ := bind_some hF
 refine ns ?_
 refine e3 ?_
 refine st ?_
 refine cm (Zj.weak (rn []) (Zfe t _ hr3) rfl (WS.mk (Zd (Zt (lc (lc (lc (lc Zo))))) Zb) Zc)) ?_
 refine st ?_
 refine nw ?_
 refine Zi hF (fun hc4 hF => ?_) (fun hc4 hF => ?_)
 ·refine AWP.seq ?_
  refine ns ?_
  obtain rfl := Zg hF
  refine ns ?_
  refine Exists.intro [] ?_
  refine st ?_
  exact wx (WS.mk (Zd (Zt (lc (lc (ZaR WE.nil (ZaR WE.nil Zo))))) Zb) Zc)
 ·refine nw ?_
  refine AWP.seq ?_
  refine ns ?_
  refine AWP.seq ?_
  refine AWP.seq ?_
  refine ns ?_
  intro hlen45
  (try rw [List.length_map] at hlen45)
  (try rw [List.length_map])
  refine st ?_
  refine AWP.block ?_
  refine AWP.loop ?_
  refine AWL.weak (rn []) ?_ (Zon s 0 t ([] : List (ByteArray × Za)) s _ hF ([]) rfl rfl hlen45)
  exact (WS.mk (tp (tp (tc (tc (tc (tc Zb)))))) (Zf rfl (cc (cc (cc (cc Zh)))) (Zf rfl (cc (cc (cc (cc Zh)))) (Zf rfl (cc Zh) Zc))))

def ZbA (s : (List Ze)) (name_ : ByteArray) (i_6 : Nat) (Zer : (List Ze)) : Option (Za × Bool) :=
 (match Zer with
 | x39 :: Zwt =>
 if (x39.fName.toList == name_.toList) = true then
 some (x39.fType, true)
 else
 ZbA s name_ (i_6 + 1) Zwt
 | [] =>
 some (Za.mk 0 (ByteArray.mk #[]) (Zk.mk ([] : List Zk)) ([] : List Za), false))
 partial_fixpoint
def ZbA.M (s : (List Ze)) (name_ : ByteArray) (i_6 : Nat) (Zer : (List Ze)) (r : Za × Bool) : Prop :=
 ∀ Zjb : List Ze, s = Zjb ++ Zer → i_6 = Zjb.length → AWL Tryz.prog 26 (Code.sub (Zq Tryz.f61) [1, 0, 1, 0, 0]) (Code.cont Tryz.prog 26 (Zq Tryz.f61) [1, 0, 1, 0] (ZbW tab Tryz.f61.results (ZbY (.tup [.agg [.v (.int .i64 r.1.fOp), .v (.string r.1.fName), .sl (r.1.fBound.fArgs.map Zk.cells), .sl (r.1.fKids.map Za.cells)], .c (.v (.bool r.2))]) []))) ⟨[(0, .c none (.sl (s.map Ze.cells))), (1, .c none (.v (.string name_))), (4, .ptr 4 0), (6, .c none (.v (.int .i64 ((i_6 : Nat) : Int))))], [(4, [(none, .v (.int .i64 0)), (none, .v (.string (ByteArray.mk #[]))), (none, .nils), (none, .nils)])]⟩
theorem Zl4 (s : (List Ze)) (name_ : ByteArray) (i_6 : Nat) (Zer : (List Ze)) : ∀ r, ZbA s name_ i_6 Zer = some r → ZbA.M s name_ i_6 Zer r := by
 refine ZbA.partial_correctness s name_ (fun i_6 Zer r => ZbA.M s name_ i_6 Zer r) ?_ i_6 Zer
 intro lazycref04_Find_l1' ZhC i_6 Zer r hF
 have Zmf := fun (_s : (List Ze)) (_name_ : ByteArray) (i_6 : Nat) (Zer : (List Ze)) => ZhC i_6 Zer
 clear ZhC
 unfold ZbA.M
 intro Zjb ZrB ZqT
 refine AWL.step ?_
 refine AWP.seq ?_
 refine AWP.seq ?_
 refine ns ?_
 intro hlen38
 (try rw [List.length_map] at hlen38)
 (try rw [List.length_map])
 refine st ?_
 refine nw ?_
 refine ZN ZrB ZqT (fun x39 Zwt Zv5 ZBn ZEr => ?_) (fun Zv5 => ?_)
 ·subst Zv5
  refine nw ?_
  refine AWP.seq ?_
  refine AWP.block ?_
  refine AWP.seq ?_
  refine nn ?_
  refine sr (Zab (f := Ze.cells) (Ze.cells_eq x39) ZBn) ?_
  refine st ?_
  refine nw ?_
  refine Zi hF (fun Zv8 hF => ?_) (fun Zv8 hF => ?_)
  ·refine AWP.seq ?_
   refine nn ?_
   refine sr (Zab (f := Ze.cells) (Ze.cells_eq x39) ZBn) ?_
   refine st ?_
   obtain rfl := Zg hF
   refine ns ?_
   refine Exists.intro [] ?_
   refine st ?_
   exact wx (WS.mk (Zd (Zc9 (ZA1 (lc (lc (lc (lc Zo)))) (ZcG (WE.refl _) Zc7))) Zb) Zc)
  ·refine nw ?_
   refine ns ?_
   refine AWL.weak (rn []) ?_ (Zmf s name_ (i_6 + 1) Zwt _ hF (Zjb ++ [x39]) (by rw [ZrB]; simp) (by rw [ZqT]; simp))
   exact (WS.mk (tc (tc (tp (Zd (Zr (Zdf (ZV hlen38 ZEr))) Zb)))) (Zf rfl (cc (cc (cc (cc Zh)))) Zc))
 ·subst Zv5
  refine nw ?_
  refine AWP.seq ?_
  refine ns ?_
  obtain rfl := Zg hF
  refine ns ?_
  refine Exists.intro [] ?_
  refine st ?_
  exact wx (WS.mk (Zd (Zc9 (ZA1 (lc (lc (ZaR WE.nil (ZaR WE.nil Zo)))) (ZcG (WE.refl _) Zc7))) Zb) Zc)

def Zb6 (s : (List Ze)) (name_ : ByteArray) : Option (Za × Bool) :=
 ZbA s name_ 0 s
def Zb6.M (s : (List Ze)) (name_ : ByteArray) (r : Za × Bool) : Prop :=
 Zj Tryz.prog 61 [.c none (.sl (s.map Ze.cells)), .c none (.v (.string name_))] [] (fun d b => d = .tup [.agg [.v (.int .i64 r.1.fOp), .v (.string r.1.fName), .sl (r.1.fBound.fArgs.map Zk.cells), .sl (r.1.fKids.map Za.cells)], .c (.v (.bool r.2))] ∧ b = [])
theorem Zg0 (s : (List Ze)) (name_ : ByteArray) (r : Za × Bool) (hF : Zb6 s name_ = some r) : Zb6.M s name_ r := by
 unfold Zb6 at hF
 unfold Zb6.M
 refine en Tryz.func61 ?_
 refine AWP.seq ?_
 refine ns ?_
 refine AWP.seq ?_
 refine AWP.seq ?_
 refine ns ?_
 refine AWP.block ?_
 refine AWP.loop ?_
 refine AWL.weak (rn []) ?_ (Zl4 s name_ 0 s _ hF ([]) rfl rfl)
 exact (WS.mk (tc (tc (tp (tc Zb)))) (Zf rfl (cc (cc (cc (cc Zh)))) Zc))

mutual
def ZaF (s : (List Ze)) (Z3 : (List ByteArray)) (t : Za) : Option (Int × Int) :=
 (if (t.fOp == 1) = true then Zbx Z3 t.fName >>= fun r53 =>
 some (!r53) else some false) >>= fun c54 =>
 if c54 = true then
 Zb6 s t.fName >>= fun r57 =>
 if r57.2 = true then
 ZaL r57.1 >>= fun r61 =>
 ZaG r57.1 >>= fun r62 =>
 some (r61, r62)
 else
 Z9 s Z3 t
 else
 Z9 s Z3 t
 partial_fixpoint
def Z9 (s : (List Ze)) (Z3 : (List ByteArray)) (t : Za) : Option (Int × Int) :=
 if (t.fOp == 4) = true then
 Z5 ((0 + Z3.length) * 16 ≤ 140737488355328) >>= fun _ =>
 Z5 ((Z3.length + ([t.fName]).length) * 16 ≤ 140737488355328) >>= fun _ =>
 Z7 s (Z3 ++ ([t.fName])) t
 else
 Z7 s Z3 t
 partial_fixpoint
def Z7 (s : (List Ze)) (ZA : (List ByteArray)) (t : Za) : Option (Int × Int) :=
 ZW s ZA 1 0 0 t t.fKids
 partial_fixpoint
def ZW (s : (List Ze)) (ZA : (List ByteArray)) (Zd4 : Int) (Zc5 : Int) (Zge : Nat) (t : Za) (ZcI : (List Za)) : Option (Int × Int) :=
 (match ZcI with
 | x46 :: ZCG =>
 ZaF s ZA x46 >>= fun r49 =>
 ZW s ZA (IntKind.i64.wrap (Zd4 + r49.1)) (if r49.2 > Zc5 then r49.2 else Zc5) (Zge + 1) t ZCG
 | [] =>
 some (Zd4, IntKind.i64.wrap (Zc5 + 1)))
 partial_fixpoint
end
def ZaF.M (s : (List Ze)) (Z3 : (List ByteArray)) (t : Za) (r : Int × Int) : Prop :=
 Zj Tryz.prog 38 [.c none (.sl (s.map Ze.cells)), .c none (.sl (Z3.map c_S)), .agg [.v (.int .i64 t.fOp), .v (.string t.fName), .sl (t.fBound.fArgs.map Zk.cells), .sl (t.fKids.map Za.cells)]] [] (fun d b => d = .tup [.c (.v (.int .i64 r.1)), .c (.v (.int .i64 r.2))] ∧ b = [])
def Z9.M (s : (List Ze)) (Z3 : (List ByteArray)) (t : Za) (r : Int × Int) : Prop :=
 AWP Tryz.prog 77 (Code.sub (Zq Tryz.f38) [1, 1]) (Code.cont Tryz.prog 77 (Zq Tryz.f38) [1, 1] (ZbW tab Tryz.f38.results (ZbY (.tup [.c (.v (.int .i64 r.1)), .c (.v (.int .i64 r.2))]) []))) ⟨[(0, .c none (.sl (s.map Ze.cells))), (1, .c none (.sl (Z3.map c_S))), (5, .ptr 5 0)], [(5, [(none, .v (.int .i64 t.fOp)), (none, .v (.string t.fName)), (none, .sl (t.fBound.fArgs.map Zk.cells)), (none, .sl (t.fKids.map Za.cells))])]⟩
def Z7.M (s : (List Ze)) (ZA : (List ByteArray)) (t : Za) (r : Int × Int) : Prop :=
 AWP Tryz.prog 77 (Code.sub (Zq Tryz.f38) [1, 1, 1]) (Code.cont Tryz.prog 77 (Zq Tryz.f38) [1, 1, 1] (ZbW tab Tryz.f38.results (ZbY (.tup [.c (.v (.int .i64 r.1)), .c (.v (.int .i64 r.2))]) []))) ⟨[(0, .c none (.sl (s.map Ze.cells))), (1, .c none (.sl (ZA.map c_S))), (5, .ptr 5 0)], [(5, [(none, .v (.int .i64 t.fOp)), (none, .v (.string t.fName)), (none, .sl (t.fBound.fArgs.map Zk.cells)), (none, .sl (t.fKids.map Za.cells))])]⟩
def ZW.M (s : (List Ze)) (ZA : (List ByteArray)) (Zd4 : Int) (Zc5 : Int) (Zge : Nat) (t : Za) (ZcI : (List Za)) (r : Int × Int) : Prop :=
 ∀ Zho : List Za, t.fKids = Zho ++ ZcI → Zge = Zho.length → AWL Tryz.prog 77 (Code.sub (Zq Tryz.f38) [1, 1, 1, 1, 0, 1, 0, 0]) (Code.cont Tryz.prog 77 (Zq Tryz.f38) [1, 1, 1, 1, 0, 1, 0] (ZbW tab Tryz.f38.results (ZbY (.tup [.c (.v (.int .i64 r.1)), .c (.v (.int .i64 r.2))]) []))) ⟨[(0, .c none (.sl (s.map Ze.cells))), (1, .c none (.sl (ZA.map c_S))), (5, .ptr 5 0), (11, .c none (.v (.int .i64 Zd4))), (12, .c none (.v (.int .i64 Zc5))), (13, .c none (.v (.int .i64 ((Zge : Nat) : Int))))], [(5, [(none, .v (.int .i64 t.fOp)), (none, .v (.string t.fName)), (none, .sl (t.fBound.fArgs.map Zk.cells)), (none, .sl (t.fKids.map Za.cells))])]⟩
theorem Zef (s : (List Ze)) : (∀ (Z3 : (List ByteArray)) (t : Za), ∀ r, ZaF s Z3 t = some r → ZaF.M s Z3 t r) ∧ (∀ (Z3 : (List ByteArray)) (t : Za), ∀ r, Z9 s Z3 t = some r → Z9.M s Z3 t r) ∧ (∀ (ZA : (List ByteArray)) (t : Za), ∀ r, Z7 s ZA t = some r → Z7.M s ZA t r) ∧ (∀ (ZA : (List ByteArray)) (Zd4 : Int) (Zc5 : Int) (Zge : Nat) (t : Za) (ZcI : (List Za)), ∀ r, ZW s ZA Zd4 Zc5 Zge t ZcI = some r → ZW.M s ZA Zd4 Zc5 Zge t ZcI r) := by
 refine ZaF.mutual_partial_correctness s (fun Z3 t r => ZaF.M s Z3 t r) (fun Z3 t r => Z9.M s Z3 t r) (fun ZA t r => Z7.M s ZA t r) (fun ZA Zd4 Zc5 Zge t ZcI r => ZW.M s ZA Zd4 Zc5 Zge t ZcI r) ?_ ?_ ?_ ?_
 ·intro lazycref04_measure_k1' Zgp Z3 t r hF
  have ZgJ := fun (_s : (List Ze)) (Z3 : (List ByteArray)) (t : Za) => Zgp Z3 t
  clear Zgp
  unfold ZaF.M
  refine en Tryz.func38 ?_
  refine AWP.seq ?_
  refine ns ?_
  refine AWP.seq ?_
  refine AWP.seq ?_
  obtain ⟨c54, ZiE, hF⟩ := bind_some hF
  refine AWP.cutN (fun T => ∃ r, WS r T ⟨[(0, .c none (.sl (s.map Ze.cells))), (1, .c none (.sl (Z3.map c_S))), (5, .ptr 5 0), (25, .c none (.v (.bool c54)))], [(5, [(none, .v (.int .i64 t.fOp)), (none, .v (.string t.fName)), (none, .sl (t.fBound.fArgs.map Zk.cells)), (none, .sl (t.fKids.map Za.cells))])]⟩) ?_ (fun T hw => ?_)
  ·refine ns ?_
   refine Zm true (fun Zto => ?_) (fun Zto => ?_)
   ·have ZiE := ift Zto ZiE
    obtain ⟨r53, ZzV, ZiE⟩ := bind_some ZiE
    (conv => whnf)
    refine st ?_
    refine e3 ?_
    refine st ?_
    refine cm (Zj.weak (rn []) (ZeM Z3 t.fName _ ZzV) rfl (WS.mk (tc (tc Zb)) Zc)) ?_
    refine st ?_
    obtain rfl := Zg ZiE
    refine st ?_
    exact wx (WS.mk (tc (tc (tp (Zd (Zr (web Zto)) Zb)))) (Zf rfl (cc (cc (cc (cc Zh)))) Zc))
   ·have ZiE := ife Zto ZiE
    (conv => whnf)
    obtain rfl := Zg ZiE
    refine st ?_
    exact wx (WS.mk (tc (tc (tp (Zd (Zr (web Zto)) Zb)))) (Zf rfl (cc (cc (cc (cc Zh)))) Zc))
  obtain ⟨r0, hw⟩ := hw
  (conv => whnf)
  refine AWP.weak r0 hw ?_
  refine nw ?_
  refine Zi hF (fun ZkE hF => ?_) (fun ZkE hF => ?_)
  ·refine AWP.seq ?_
   obtain ⟨r57, ZH2, hF⟩ := bind_some hF
   refine ns ?_
   refine e3 ?_
   refine st ?_
   refine cm (Zj.weak (rn []) (Zg0 s t.fName _ ZH2) rfl (WS.mk (tc (tc Zb)) Zc)) ?_
   refine st ?_
   refine AWP.seq ?_
   refine ns ?_
   refine nw ?_
   refine Zi hF (fun Zm6 hF => ?_) (fun Zm6 hF => ?_)
   ·refine AWP.seq ?_
    obtain ⟨r61, ZAR, hF⟩ := bind_some hF
    obtain ⟨r62, ZDz, hF⟩ := bind_some hF
    refine nn ?_
    refine Or.inr (Exists.intro [2] (Exists.intro [[36]] (Exists.intro [8] (Exists.intro [8, 36] (Exists.intro [36] (Exists.intro [0, 1, 3, 4, 5] (And.intro (by decide +kernel) ?_)))))))
    refine dp ?_
    refine st ?_
    refine e3 ?_
    refine st ?_
    refine cm (Zj.weak (rn []) (Zg1 r57.1 _ ZAR) rfl (WS.mk (Zd (Zt (lc (lc (lc (lc Zo))))) Zb) Zc)) ?_
    refine st ?_
    refine e3 ?_
    refine st ?_
    refine cm (Zj.weak (rn []) (Zgt r57.1 _ ZDz) rfl (WS.mk (Zd (Zt (lc (lc (lc (lc Zo))))) Zb) Zc)) ?_
    refine st ?_
    obtain rfl := Zg hF
    refine ns ?_
    refine Exists.intro [] ?_
    refine st ?_
    exact wx (WS.mk (Zd (Zc9 (ZcG (WE.refl _) (ZcG (WE.refl _) Zc7))) Zb) Zc)
   ·refine nw ?_
    refine AWP.weak (rn []) ?_ (ZgJ s Z3 t _ hF)
    exact (WS.mk (tc (tc (tp Zb))) (Zf rfl (cc (cc (cc (cc Zh)))) Zc))
  ·refine nw ?_
   refine AWP.weak (rn []) ?_ (ZgJ s Z3 t _ hF)
   exact (WS.mk (tc (tc (tp Zb))) (Zf rfl (cc (cc (cc (cc Zh)))) Zc))
 ·intro lazycref04_measure_k2' Zgn Z3 t r hF
  have ZgS := fun (_s : (List Ze)) (ZA : (List ByteArray)) (t : Za) => Zgn ZA t
  clear Zgn
  unfold Z9.M
  refine AWP.seq ?_
  refine AWP.seq ?_
  refine ns ?_
  refine nw ?_
  refine Zi hF (fun ZCz hF => ?_) (fun ZCz hF => ?_)
  ·refine AWP.seq ?_
   refine ns ?_
   refine AWP.seq ?_
   obtain ⟨ZHI, hF⟩ := Zy hF
   refine nn ?_
   refine sa (fun l => ZbU l (fun x => ZfO x)) ZHI ?_
   refine Exists.intro _ (And.intro (WE.refl _) ?_)
   (try rw [List.nil_append])
   refine st ?_
   refine AWP.seq ?_
   obtain ⟨ZIp, hF⟩ := Zy hF
   refine ns ?_
   refine Exists.intro _ (And.intro (Zbt (f := c_S) (lc Zo) (ZY (f := c_S))) ?_)
   refine sa (fun l => ZbU l (fun x => ZfO x)) ZIp ?_
   refine Exists.intro _ (And.intro (WE.refl _) ?_)
   rw [← List.map_append]
   refine st ?_
   refine ns ?_
   refine AWP.weak (rn []) ?_ (ZgS s (Z3 ++ ([t.fName])) t _ hF)
   exact (WS.mk (tc (tc (tp Zb))) (Zf rfl (cc (cc (cc (cc Zh)))) Zc))
  ·refine nw ?_
   refine AWP.weak (rn []) ?_ (ZgS s Z3 t _ hF)
   exact (WS.mk (tc (tc (tp Zb))) (Zf rfl (cc (cc (cc (cc Zh)))) Zc))
 ·intro lazycref04_measure_l3' Zc6 ZA t r hF
  have Ze0 := fun (_s : (List Ze)) (ZA : (List ByteArray)) (Zd4 : Int) (Zc5 : Int) (Zge : Nat) (t : Za) (ZcI : (List Za)) => Zc6 ZA Zd4 Zc5 Zge t ZcI
  clear Zc6
  unfold Z7.M
  refine AWP.seq ?_
  refine ns ?_
  refine AWP.seq ?_
  refine AWP.seq ?_
  refine ns ?_
  refine AWP.block ?_
  refine AWP.loop ?_
  refine AWL.weak (rn []) ?_ (Ze0 s ZA 1 0 0 t t.fKids _ hF ([]) rfl rfl)
  exact (WS.mk (tc (tc (tp (tc (tc (tc Zb)))))) (Zf rfl (cc (cc (cc (cc Zh)))) Zc))
 ·intro lazycref04_measure' lazycref04_measure_l3' ZhF Zc6 ZA Zd4 Zc5 Zge t ZcI r hF
  have Zma := fun (_s : (List Ze)) (Z3 : (List ByteArray)) (t : Za) => ZhF Z3 t
  clear ZhF
  have Ze0 := fun (_s : (List Ze)) (ZA : (List ByteArray)) (Zd4 : Int) (Zc5 : Int) (Zge : Nat) (t : Za) (ZcI : (List Za)) => Zc6 ZA Zd4 Zc5 Zge t ZcI
  clear Zc6
  unfold ZW.M
  intro Zho ZoN Zou
  refine AWL.step ?_
  refine AWP.seq ?_
  refine AWP.seq ?_
  refine ns ?_
  intro hlen45
  (try rw [List.length_map] at hlen45)
  (try rw [List.length_map])
  refine st ?_
  refine nw ?_
  refine ZN ZoN Zou (fun x46 ZCG ZDj ZHa ZG3 => ?_) (fun ZDj => ?_)
  ·subst ZDj
   refine nw ?_
   refine AWP.seq ?_
   refine AWP.block ?_
   refine AWP.seq ?_
   obtain ⟨r49, ZII, hF⟩ := bind_some hF
   refine nn ?_
   refine sr (Zab (f := Za.cells) (Za.cells_eq x46) ZHa) ?_
   refine st ?_
   refine e3 ?_
   refine st ?_
   refine cm (Zj.weak (rn []) (Zma s ZA x46 _ ZII) rfl (WS.mk (tc (tc (Zd (Zt (lc (lc (lc (lc Zo))))) Zb))) Zc)) ?_
   refine st ?_
   refine AWP.seq ?_
   refine ns ?_
   refine ns ?_
   refine ns ?_
   refine AWL.weak (rn []) ?_ (Ze0 s ZA (IntKind.i64.wrap (Zd4 + r49.1)) (if r49.2 > Zc5 then r49.2 else Zc5) (Zge + 1) t ZCG _ hF (Zho ++ [x46]) (by rw [ZoN]; simp) (by rw [Zou]; simp))
   exact (WS.mk (tc (tc (tp (tc (tc (Zd (Zr (Zdf (ZV hlen45 ZG3))) Zb)))))) (Zf rfl (cc (cc (cc (cc Zh)))) Zc))
  ·subst ZDj
   refine nw ?_
   refine AWP.seq ?_
   refine ns ?_
   obtain rfl := Zg hF
   refine ns ?_
   refine Exists.intro [] ?_
   refine st ?_
   exact wx (WS.mk (Zd (Zc9 (ZcG (WE.refl _) (ZcG (WE.refl _) Zc7))) Zb) Zc)
theorem Zl6 : ∀ (s : (List Ze)) (Z3 : (List ByteArray)) (t : Za), ∀ r, ZaF s Z3 t = some r → ZaF.M s Z3 t r := fun s Z3 t => (Zef s).1 Z3 t
theorem lazycref04_measure_k1_ok : ∀ (s : (List Ze)) (Z3 : (List ByteArray)) (t : Za), ∀ r, Z9 s Z3 t = some r → Z9.M s Z3 t r := fun s Z3 t => (Zef s).2.1 Z3 t
theorem lazycref04_measure_k2_ok : ∀ (s : (List Ze)) (ZA : (List ByteArray)) (t : Za), ∀ r, Z7 s ZA t = some r → Z7.M s ZA t r := fun s ZA t => (Zef s).2.2.1 ZA t
theorem lazycref04_measure_l3_ok : ∀ (s : (List Ze)) (ZA : (List ByteArray)) (Zd4 : Int) (Zc5 : Int) (Zge : Nat) (t : Za) (ZcI : (List Za)), ∀ r, ZW s ZA Zd4 Zc5 Zge t ZcI = some r → ZW.M s ZA Zd4 Zc5 Zge t ZcI r := fun s ZA Zd4 Zc5 Zge t ZcI => (Zef s).2.2.2 ZA Zd4 Zc5 Zge t ZcI

def Zb1 (avoid : (List ByteArray)) (b_5 : ByteArray) (k_8 : Nat) : Option (ByteArray) :=
 Zds b_5 ((k_8 : Nat) : Int) >>= fun r39 =>
 Zbx avoid r39 >>= fun r40 =>
 if r40 = true then
 Z5 (k_8 + 1 ≤ 9223372036854775807) >>= fun _ =>
 Zb1 avoid b_5 (k_8 + 1)
 else
 Zds b_5 ((k_8 : Nat) : Int) >>= fun r43 =>
 some r43
 partial_fixpoint
def Zb1.M (avoid : (List ByteArray)) (b_5 : ByteArray) (k_8 : Nat) (r : ByteArray) : Prop :=
 AWL Tryz.prog 28 (Code.sub (Zq Tryz.f63) [1, 1, 1, 1, 0, 0, 0]) (Code.cont Tryz.prog 28 (Zq Tryz.f63) [1, 1, 1, 1, 0, 0] (ZbW tab Tryz.f63.results (ZbY (.c none (.v (.string r))) []))) ⟨[(1, .c none (.sl (avoid.map c_S))), (5, .c none (.v (.string b_5))), (8, .c none (.v (.int .i64 ((k_8 : Nat) : Int))))], []⟩
theorem ZkA (avoid : (List ByteArray)) (b_5 : ByteArray) (k_8 : Nat) : ∀ r, Zb1 avoid b_5 k_8 = some r → Zb1.M avoid b_5 k_8 r := by
 refine Zb1.partial_correctness avoid b_5 (fun k_8 r => Zb1.M avoid b_5 k_8 r) ?_ k_8
 intro lazycref04_Renamed_l2' Zgk k_8 r hF
 have Zkq := fun (_avoid : (List ByteArray)) (_b_5 : ByteArray) (k_8 : Nat) => Zgk k_8
 clear Zgk
 unfold Zb1.M
 refine AWL.step ?_
 refine AWP.seq ?_
 refine AWP.seq ?_
 obtain ⟨r39, ZDE, hF⟩ := bind_some hF
 obtain ⟨r40, ZHb, hF⟩ := bind_some hF
 refine ns ?_
 refine e3 ?_
 refine st ?_
 refine cm (Zj.weak (rn []) (ZjQ b_5 ((k_8 : Nat) : Int) _ ZDE) rfl (WS.mk (tc (tc Zb)) Zc)) ?_
 refine st ?_
 refine e3 ?_
 refine st ?_
 refine cm (Zj.weak (rn []) (ZeM avoid r39 _ ZHb) rfl (WS.mk (tc (tc Zb)) Zc)) ?_
 refine st ?_
 refine nw ?_
 refine Zi hF (fun Zwc hF => ?_) (fun Zwc hF => ?_)
 ·refine nw ?_
  refine AWP.block ?_
  obtain ⟨ZG4, hF⟩ := Zy hF
  refine ns ?_
  refine AWL.weak (rn []) ?_ (Zkq avoid b_5 (k_8 + 1) _ hF)
  exact (WS.mk (tc (tc (Zd (Zr (Zdf (Zdu ZG4))) Zb))) Zc)
 ·refine nw ?_
  refine AWP.seq ?_
  obtain ⟨r43, ZDH, hF⟩ := bind_some hF
  refine ns ?_
  refine e3 ?_
  refine st ?_
  refine cm (Zj.weak (rn []) (ZjQ b_5 ((k_8 : Nat) : Int) _ ZDH) rfl (WS.mk (tc (tc Zb)) Zc)) ?_
  refine st ?_
  obtain rfl := Zg hF
  refine ns ?_
  refine Exists.intro [] ?_
  refine st ?_
  exact wx (WS.mk (tc Zb) Zc)

def ZcE (avoid : (List ByteArray)) (b_5 : ByteArray) : Option (ByteArray) :=
 Zb1 avoid b_5 1
def ZcE.M (avoid : (List ByteArray)) (b_5 : ByteArray) (r : ByteArray) : Prop :=
 AWP Tryz.prog 28 (Code.sub (Zq Tryz.f63) [1, 1, 1]) (Code.cont Tryz.prog 28 (Zq Tryz.f63) [1, 1, 1] (ZbW tab Tryz.f63.results (ZbY (.c none (.v (.string r))) []))) ⟨[(1, .c none (.sl (avoid.map c_S))), (5, .c none (.v (.string b_5)))], []⟩
theorem ZgP (avoid : (List ByteArray)) (b_5 : ByteArray) (r : ByteArray) (hF : ZcE avoid b_5 = some r) : ZcE.M avoid b_5 r := by
 unfold ZcE at hF
 unfold ZcE.M
 refine AWP.seq ?_
 refine ns ?_
 refine AWP.seq ?_
 refine AWP.block ?_
 refine AWP.loop ?_
 refine AWL.weak (rn []) ?_ (ZkA avoid b_5 1 _ hF)
 exact (WS.mk (tc (tc (tc Zb))) Zc)

def ZdQ (name_ : ByteArray) (avoid : (List ByteArray)) : Option (ByteArray) :=
 ZcW name_ >>= fun r1 =>
 if (!r1.2.2) = true then
 ZcE avoid name_
 else
 ZcE avoid r1.1
def ZdQ.M (name_ : ByteArray) (avoid : (List ByteArray)) (r : ByteArray) : Prop :=
 Zj Tryz.prog 63 [.c none (.v (.string name_)), .c none (.sl (avoid.map c_S))] [] (fun d b => d = .c none (.v (.string r)) ∧ b = [])
theorem Zmd (name_ : ByteArray) (avoid : (List ByteArray)) (r : ByteArray) (hF : ZdQ name_ avoid = some r) : ZdQ.M name_ avoid r := by
 unfold ZdQ at hF
 unfold ZdQ.M
 refine en Tryz.func63 ?_
 refine AWP.seq ?_
 refine ns ?_
 refine AWP.seq ?_
 obtain ⟨r1, hr1, hF⟩ := bind_some hF
 refine ns ?_
 refine e3 ?_
 refine st ?_
 refine cm (Zj.weak (rn []) (Zg2 name_ _ hr1) rfl (WS.mk (tc Zb) Zc)) ?_
 refine st ?_
 refine AWP.seq ?_
 refine AWP.seq ?_
 refine ns ?_
 refine nw ?_
 refine Zi hF (fun ZIv hF => ?_) (fun ZIv hF => ?_)
 ·refine ns ?_
  refine AWP.weak (rn []) ?_ (ZgP avoid name_ _ hF)
  exact (WS.mk (tc (tc Zb)) Zc)
 ·refine nw ?_
  refine AWP.weak (rn []) ?_ (ZgP avoid r1.1 _ hF)
  exact (WS.mk (tc (tc Zb)) Zc)

def Zfb (name_ : ByteArray) : Option (Za) :=
 some (Za.mk 1 name_ (Zk.mk ([] : List Zk)) ([] : List Za))
def Zfb.M (name_ : ByteArray) (r : Za) : Prop :=
 Zj Tryz.prog 64 [.c none (.v (.string name_))] [] (fun d b => d = .agg [.v (.int .i64 r.fOp), .v (.string r.fName), .sl (r.fBound.fArgs.map Zk.cells), .sl (r.fKids.map Za.cells)] ∧ b = [])
theorem ZoG (name_ : ByteArray) (r : Za) (hF : Zfb name_ = some r) : Zfb.M name_ r := by
 unfold Zfb at hF
 unfold Zfb.M
 refine en Tryz.func64 ?_
 refine AWP.seq ?_
 refine ns ?_
 refine AWP.seq ?_
 refine ns ?_
 obtain rfl := Zg hF
 refine ns ?_
 refine Exists.intro [] ?_
 refine st ?_
 exact wx (WS.mk (Zd (Zt (lc (lc (ZaR WE.nil (ZaR WE.nil Zo))))) Zb) Zc)

def Zeu (f : Za) (x : Za) : Option (Za) :=
 some (Za.mk 3 (ByteArray.mk #[]) (Zk.mk ([] : List Zk)) ([f, x]))
def Zeu.M (f : Za) (x : Za) (r : Za) : Prop :=
 Zj Tryz.prog 62 [.agg [.v (.int .i64 f.fOp), .v (.string f.fName), .sl (f.fBound.fArgs.map Zk.cells), .sl (f.fKids.map Za.cells)], .agg [.v (.int .i64 x.fOp), .v (.string x.fName), .sl (x.fBound.fArgs.map Zk.cells), .sl (x.fKids.map Za.cells)]] [] (fun d b => d = .agg [.v (.int .i64 r.fOp), .v (.string r.fName), .sl (r.fBound.fArgs.map Zk.cells), .sl (r.fKids.map Za.cells)] ∧ b = [])
theorem ZoO (f : Za) (x : Za) (r : Za) (hF : Zeu f x = some r) : Zeu.M f x r := by
 unfold Zeu at hF
 unfold Zeu.M
 refine en Tryz.func62 ?_
 refine AWP.seq ?_
 refine ns ?_
 refine AWP.seq ?_
 refine ns ?_
 refine Exists.intro _ (And.intro (Zbt (f := Za.cells) (ZdA (Za.cells_eq f) (lc (lc (lc (lc Zo))))) (Zbt (f := Za.cells) (ZdA (Za.cells_eq x) (lc (lc (lc (lc Zo))))) (ZY (f := Za.cells)))) ?_)
 refine st ?_
 obtain rfl := Zg hF
 refine ns ?_
 refine Exists.intro [] ?_
 refine st ?_
 exact wx (WS.mk (Zd (Zt (lc (lc (ZaR WE.nil (lc Zo))))) Zb) Zc)

mutual
def Zap (s : (List Ze)) (t : Za) : Option (Za) :=
 if (t.fOp == 1) = true then
 Zb6 s t.fName >>= fun ZDN =>
 if ZDN.2 = true then
 some ZDN.1
 else
 some t
 else
 if (t.fOp == 3) = true then
 (ixI t.fKids 1) >>= fun Zx3 =>
 (ixI t.fKids 0) >>= fun ZxW =>
 Zap s ZxW >>= fun ZyU =>
 Zap s Zx3 >>= fun ZAX =>
 Zeu ZyU ZAX >>= fun ZA3 =>
 some ZA3
 else
 if (t.fOp == 4) = true then
 (ixI t.fKids 0) >>= fun ZeF =>
 Zak ([] : List ByteArray) ([] : List ByteArray) ZeF >>= fun ZiK =>
 ZbJ s ZiK ([]) ([]) 0 t ZeF ZiK
 else
 some t
 partial_fixpoint
def ZbJ (s : (List Ze)) (ZiK : ((List ByteArray))) (Zel : (List Ze)) (Zc0 : (List ByteArray)) (Zhj : Nat) (t : Za) (ZeF : Za) (ZdC : (List ByteArray)) : Option (Za) :=
 (match ZdC with
 | ZqO :: Zuc =>
 Zb6 s ZqO >>= fun Zpl =>
 if (Zpl.2 && (!(ZqO.toList == t.fName.toList))) = true then
 Z5 ((Zel.length + ([(Ze.mk ZqO Zpl.1)]).length) * 88 ≤ 140737488355328) >>= fun _ =>
 Zak Zc0 ([] : List ByteArray) Zpl.1 >>= fun ZEo =>
 ZbJ s ZiK (Zel ++ ([(Ze.mk ZqO Zpl.1)])) ZEo (Zhj + 1) t ZeF Zuc
 else
 ZbJ s ZiK Zel Zc0 (Zhj + 1) t ZeF Zuc
 | [] =>
 Zbx Zc0 t.fName >>= fun ZED =>
 if ZED = true then
 Z5 ((0 + ZiK.length) * 16 ≤ 140737488355328) >>= fun _ =>
 Z5 ((ZiK.length + Zc0.length) * 16 ≤ 140737488355328) >>= fun _ =>
 ZdQ t.fName (ZiK ++ Zc0) >>= fun Zzk =>
 Zfb Zzk >>= fun Zy7 =>
 Z5 ((Zel.length + ([(Ze.mk t.fName Zy7)]).length) * 88 ≤ 140737488355328) >>= fun _ =>
 Zb3 (Zel ++ ([(Ze.mk t.fName Zy7)])) Zzk t ZeF
 else
 Zb3 Zel t.fName t ZeF)
 partial_fixpoint
def Zb3 (Zel : (List Ze)) (Zio : ByteArray) (t : Za) (ZeF : Za) : Option (Za) :=
 Zap Zel ZeF >>= fun ZCX =>
 some (Za.mk 4 Zio t.fBound ([ZCX]))
 partial_fixpoint
end
def Zap.M (s : (List Ze)) (t : Za) (r : Za) : Prop :=
 Zj Tryz.prog 39 [.c none (.sl (s.map Ze.cells)), .agg [.v (.int .i64 t.fOp), .v (.string t.fName), .sl (t.fBound.fArgs.map Zk.cells), .sl (t.fKids.map Za.cells)]] [] (fun d b => d = .agg [.v (.int .i64 r.fOp), .v (.string r.fName), .sl (r.fBound.fArgs.map Zk.cells), .sl (r.fKids.map Za.cells)] ∧ b = [])
def ZbJ.M (s : (List Ze)) (ZiK : ((List ByteArray))) (Zel : (List Ze)) (Zc0 : (List ByteArray)) (Zhj : Nat) (t : Za) (ZeF : Za) (ZdC : (List ByteArray)) (r : Za) : Prop :=
 ∀ ZgD : List ByteArray, ZiK = ZgD ++ ZdC → Zhj = ZgD.length → AWL Tryz.prog 122 (Code.sub (Zq Tryz.f39) [1, 0, 1, 0, 1, 1, 1, 1, 1, 0, 1, 1, 1, 1, 0, 1, 0, 0]) (Code.cont Tryz.prog 122 (Zq Tryz.f39) [1, 0, 1, 0, 1, 1, 1, 1, 1, 0, 1, 1, 1, 1, 0, 1, 0] (ZbW tab Tryz.f39.results (ZbY (.agg [.v (.int .i64 r.fOp), .v (.string r.fName), .sl (r.fBound.fArgs.map Zk.cells), .sl (r.fKids.map Za.cells)]) []))) ⟨[(0, .c none (.sl (s.map Ze.cells))), (3, .ptr 3 0), (4, .ptr 4 0), (7, .ptr 7 0), (8, .c (some (8, 9)) (.sl (ZiK.map c_S))), (9, .c (some (9, 45)) (.sl (Zel.map Ze.cells))), (10, .c (some (10, 9)) (.sl (Zc0.map c_S))), (11, .c none (.v (.int .i64 ((Zhj : Nat) : Int))))], [(3, [(none, .v (.int .i64 t.fOp)), (none, .v (.string t.fName)), (none, .sl (t.fBound.fArgs.map Zk.cells)), (none, .sl (t.fKids.map Za.cells))]), (4, [(none, .v (.int .i64 0)), (none, .v (.string (ByteArray.mk #[]))), (none, .nils), (none, .nils)]), (7, [(none, .v (.int .i64 ZeF.fOp)), (none, .v (.string ZeF.fName)), (none, .sl (ZeF.fBound.fArgs.map Zk.cells)), (none, .sl (ZeF.fKids.map Za.cells))])]⟩
def Zb3.M (Zel : (List Ze)) (Zio : ByteArray) (t : Za) (ZeF : Za) (r : Za) : Prop :=
 AWP Tryz.prog 122 (Code.sub (Zq Tryz.f39) [1, 0, 1, 0, 1, 1, 1, 1, 1, 0, 1, 1, 1, 1, 1, 1, 1]) (Code.cont Tryz.prog 122 (Zq Tryz.f39) [1, 0, 1, 0, 1, 1, 1, 1, 1, 0, 1, 1, 1, 1, 1, 1, 1] (ZbW tab Tryz.f39.results (ZbY (.agg [.v (.int .i64 r.fOp), .v (.string r.fName), .sl (r.fBound.fArgs.map Zk.cells), .sl (r.fKids.map Za.cells)]) []))) ⟨[(3, .ptr 3 0), (4, .ptr 4 0), (7, .ptr 7 0), (9, .c (some (9, 45)) (.sl (Zel.map Ze.cells))), (14, .c none (.v (.string Zio)))], [(3, [(none, .v (.int .i64 t.fOp)), (none, .v (.string t.fName)), (none, .sl (t.fBound.fArgs.map Zk.cells)), (none, .sl (t.fKids.map Za.cells))]), (4, [(none, .v (.int .i64 0)), (none, .v (.string (ByteArray.mk #[]))), (none, .nils), (none, .nils)]), (7, [(none, .v (.int .i64 ZeF.fOp)), (none, .v (.string ZeF.fName)), (none, .sl (ZeF.fBound.fArgs.map Zk.cells)), (none, .sl (ZeF.fKids.map Za.cells))])]⟩
theorem Zf3 : (∀ (s : (List Ze)) (t : Za), ∀ r, Zap s t = some r → Zap.M s t r) ∧ (∀ (s : (List Ze)) (ZiK : ((List ByteArray))) (Zel : (List Ze)) (Zc0 : (List ByteArray)) (Zhj : Nat) (t : Za) (ZeF : Za) (ZdC : (List ByteArray)), ∀ r, ZbJ s ZiK Zel Zc0 Zhj t ZeF ZdC = some r → ZbJ.M s ZiK Zel Zc0 Zhj t ZeF ZdC r) ∧ (∀ (Zel : (List Ze)) (Zio : ByteArray) (t : Za) (ZeF : Za), ∀ r, Zb3 Zel Zio t ZeF = some r → Zb3.M Zel Zio t ZeF r) := by
 refine Zap.mutual_partial_correctness Zap.M ZbJ.M Zb3.M ?_ ?_ ?_
 ·intro lazycref04_subst' lazycref04_subst_l1' Ze5 Zek s t r hF
  unfold Zap.M
  refine en Tryz.func39 ?_
  refine AWP.seq ?_
  refine ns ?_
  refine AWP.seq ?_
  refine AWP.seq ?_
  refine ns ?_
  refine AWP.block ?_
  refine AWP.seq ?_
  refine ns ?_
  refine nw ?_
  refine Zi hF (fun Zso hF => ?_) (fun Zso hF => ?_)
  ·refine AWP.seq ?_
   obtain ⟨ZDN, ZF1, hF⟩ := bind_some hF
   refine ns ?_
   refine e3 ?_
   refine st ?_
   refine cm (Zj.weak (rn []) (Zg0 s t.fName _ ZF1) rfl (WS.mk (tc (tc Zb)) Zc)) ?_
   refine st ?_
   refine AWP.seq ?_
   refine AWP.seq ?_
   refine ns ?_
   refine nw ?_
   refine Zi hF (fun ZAl hF => ?_) (fun ZAl hF => ?_)
   ·refine AWP.seq ?_
    refine ns ?_
    obtain rfl := Zg hF
    refine ns ?_
    refine Exists.intro [] ?_
    refine st ?_
    exact wx (WS.mk (Zd (Zt (lc (lc (lc (lc Zo))))) Zb) Zc)
   ·refine nw ?_
    refine AWP.seq ?_
    refine ns ?_
    obtain rfl := Zg hF
    refine ns ?_
    refine Exists.intro [] ?_
    refine st ?_
    exact wx (WS.mk (Zd (Zt (lc (lc (lc (lc Zo))))) Zb) Zc)
  ·refine AWP.seq ?_
   refine ns ?_
   refine nw ?_
   refine Zi hF (fun ZGr hF => ?_) (fun ZGr hF => ?_)
   ·refine AWP.seq ?_
    obtain ⟨Zx3, hx1290, ZFr, hF⟩ := ZcL hF
    obtain ⟨ZxW, hx1300, ZEL, hF⟩ := ZcL hF
    obtain ⟨ZyU, ZGb, hF⟩ := bind_some hF
    obtain ⟨ZAX, ZFt, hF⟩ := bind_some hF
    obtain ⟨ZA3, ZFL, hF⟩ := bind_some hF
    refine nn ?_
    refine Or.inr (Exists.intro [0, 6, 7, 8, 9, 10] (Exists.intro [[32, 38, 39, 40, 41, 42], [32, 38, 39, 40, 41, 42], [32, 38, 39, 40, 41, 42], [32, 38, 40, 41, 42], [32, 38, 41, 42], [32, 38, 42]] (Exists.intro [3] (Exists.intro [0, 3, 32, 38, 39, 40, 41, 42] (Exists.intro [32, 38, 39, 40, 41, 42] (Exists.intro [1, 2, 3, 4, 5, 11, 12, 13] (And.intro (by decide +kernel) ?_)))))))
    refine dp ?_
    refine dp ?_
    refine dp ?_
    refine dp ?_
    refine dr (ZbX (Za.cells_eq Zx3) ZFr) ?_
    refine dp ?_
    refine sr (ZbX (f := Za.cells) (Za.cells_eq ZxW) ZEL) ?_
    refine st ?_
    refine e3 ?_
    refine st ?_
    refine cm (Zj.weak (rn []) (Ze5 s ZxW _ ZGb) rfl (WS.mk (tc (Zd (Zt (lc (lc (lc (lc Zo))))) Zb)) Zc)) ?_
    refine st ?_
    refine e3 ?_
    refine st ?_
    refine cm (Zj.weak (rn []) (Ze5 s Zx3 _ ZFt) rfl (WS.mk (tc (Zd (Zt (lc (lc (lc (lc Zo))))) Zb)) Zc)) ?_
    refine st ?_
    refine e3 ?_
    refine st ?_
    refine cm (Zj.weak (rn []) (ZoO ZyU ZAX _ ZFL) rfl (WS.mk (Zd (Zt (lc (lc (lc (lc Zo))))) (Zd (Zt (lc (lc (lc (lc Zo))))) Zb)) Zc)) ?_
    refine st ?_
    obtain rfl := Zg hF
    refine ns ?_
    refine Exists.intro [] ?_
    refine st ?_
    exact wx (WS.mk (Zd (Zt (lc (lc (lc (lc Zo))))) Zb) Zc)
   ·refine AWP.seq ?_
    refine ns ?_
    refine nw ?_
    refine Zi hF (fun ZFO hF => ?_) (fun ZFO hF => ?_)
    ·refine AWP.seq ?_
     obtain ⟨ZeF, hx1350, ZE0, hF⟩ := ZcL hF
     refine nn ?_
     refine sr (ZbX (f := Za.cells) (Za.cells_eq ZeF) ZE0) ?_
     refine st ?_
     refine AWP.seq ?_
     obtain ⟨ZiK, ZGm, hF⟩ := bind_some hF
     refine ns ?_
     refine e3 ?_
     refine st ?_
     refine cm (Zj.weak (rn []) (ZfG ([] : List ByteArray) ([] : List ByteArray) ZeF _ ZGm) rfl (WS.mk (Zd ZjI (Zd (Zr WE.nil) (Zd (Zt (lc (lc (lc (lc Zo))))) Zb))) Zc)) ?_
     refine st ?_
     refine AWP.seq ?_
     refine ns ?_
     refine AWP.seq ?_
     refine ns ?_
     refine AWP.seq ?_
     refine AWP.seq ?_
     refine ns ?_
     refine AWP.block ?_
     refine AWP.loop ?_
     refine AWL.weak (rn [(52, 8)]) ?_ (Zek s ZiK ([]) ([]) 0 t ZeF ZiK _ hF ([]) rfl rfl)
     exact (WS.mk (tc (tp (tp (tp (Zd (Zam rfl (WE.refl _)) (Zd ZjI (Zd ZjI (tc Zb)))))))) (Zf rfl (cc (cc (cc (cc Zh)))) (Zf rfl (cc (cc (cc (cc Zh)))) (Zf rfl (cc (cc (cc (cc Zh)))) Zc))))
    ·refine nw ?_
     refine AWP.seq ?_
     refine ns ?_
     obtain rfl := Zg hF
     refine ns ?_
     refine Exists.intro [] ?_
     refine st ?_
     exact wx (WS.mk (Zd (Zt (lc (lc (lc (lc Zo))))) Zb) Zc)
 ·intro lazycref04_subst_l1' lazycref04_subst_k2' Zek ZhL s ZiK Zel Zc0 Zhj t ZeF ZdC r hF
  unfold ZbJ.M
  intro ZgD Znj Zni
  refine AWL.step ?_
  refine AWP.seq ?_
  refine AWP.seq ?_
  refine ns ?_
  intro hlen209
  (try rw [List.length_map] at hlen209)
  (try rw [List.length_map])
  refine st ?_
  refine nw ?_
  refine ZN Znj Zni (fun ZqO Zuc Zzv ZAY ZB7 => ?_) (fun Zzv => ?_)
  ·subst Zzv
   refine nw ?_
   refine AWP.seq ?_
   refine AWP.block ?_
   refine AWP.seq ?_
   obtain ⟨Zpl, ZEY, hF⟩ := bind_some hF
   refine nn ?_
   refine sr (Zab (f := c_S) rfl ZAY) ?_
   refine st ?_
   refine e3 ?_
   refine st ?_
   refine cm (Zj.weak (rn []) (Zg0 s ZqO _ ZEY) rfl (WS.mk (tc (tc Zb)) Zc)) ?_
   refine st ?_
   refine AWP.seq ?_
   refine AWP.cutN (fun T => ∃ r, WS r T ⟨[(0, .c none (.sl (s.map Ze.cells))), (3, .ptr 3 0), (4, .ptr 4 0), (7, .ptr 7 0), (8, .c (some (8, 9)) (.sl (ZiK.map c_S))), (9, .c (some (9, 45)) (.sl (Zel.map Ze.cells))), (10, .c (some (10, 9)) (.sl (Zc0.map c_S))), (11, .c none (.v (.int .i64 ((Zhj : Nat) : Int)))), (12, .ptr 12 0), (77, .c none (.v (.bool (Zpl.2 && (!(ZqO.toList == t.fName.toList))))))], [(3, [(none, .v (.int .i64 t.fOp)), (none, .v (.string t.fName)), (none, .sl (t.fBound.fArgs.map Zk.cells)), (none, .sl (t.fKids.map Za.cells))]), (4, [(none, .v (.int .i64 0)), (none, .v (.string (ByteArray.mk #[]))), (none, .nils), (none, .nils)]), (7, [(none, .v (.int .i64 ZeF.fOp)), (none, .v (.string ZeF.fName)), (none, .sl (ZeF.fBound.fArgs.map Zk.cells)), (none, .sl (ZeF.fKids.map Za.cells))]), (12, [(none, .v (.int .i64 Zpl.1.fOp)), (none, .v (.string Zpl.1.fName)), (none, .sl (Zpl.1.fBound.fArgs.map Zk.cells)), (none, .sl (Zpl.1.fKids.map Za.cells))])]⟩) ?_ (fun T hw => ?_)
   ·refine nn ?_
    refine Or.inl (Exists.intro 8 (Exists.intro [[], [], [], [], [], [], [], []] (Exists.intro [([68, 69, 70, 71, 72, 73, 74, 75], [], []), ([69, 70, 71, 72, 73, 74, 75], [], []), ([70, 71, 72, 73, 74, 75], [], []), ([70, 71, 72, 73, 74, 75], [], []), ([72, 73, 74, 75], [], []), ([73, 74, 75], [], []), ([70, 71, 72, 73, 74, 75], [], []), ([70, 71, 72, 73, 75], [], [])] (Exists.intro [68, 69, 70, 71, 72, 73, 74, 75] (And.intro (by decide +kernel) ?_)))))
    refine dp ?_
    refine dp ?_
    refine st ?_
    refine Zm true (fun ZAE => ?_) (fun ZAE => ?_)
    ·(conv => whnf)
     refine dp ?_
     refine dp ?_
     refine dr (Zab rfl ZAY) ?_
     refine dp ?_
     refine dp ?_
     refine dp ?_
     refine st ?_
     exact Exists.intro (rn [(8, 8), (9, 9), (10, 10)]) (WS.mk (tc (tp (tp (tp (Zd (Zam rfl (WE.refl _)) (Zd (Zam rfl (WE.refl _)) (Zd (Zam rfl (WE.refl _)) (tc (tp (Zd (Zr (web ZAE)) Zb)))))))))) (Zf rfl (cc (cc (cc (cc Zh)))) (Zf rfl (cc (cc (cc (cc Zh)))) (Zf rfl (cc (cc (cc (cc Zh)))) (Zf rfl (cc (cc (cc (cc Zh)))) Zc)))))
    ·(conv => whnf)
     refine st ?_
     exact Exists.intro (rn [(8, 8), (9, 9), (10, 10)]) (WS.mk (tc (tp (tp (tp (Zd (Zam rfl (WE.refl _)) (Zd (Zam rfl (WE.refl _)) (Zd (Zam rfl (WE.refl _)) (tc (tp (Zd (Zr (web ZAE)) Zb)))))))))) (Zf rfl (cc (cc (cc (cc Zh)))) (Zf rfl (cc (cc (cc (cc Zh)))) (Zf rfl (cc (cc (cc (cc Zh)))) (Zf rfl (cc (cc (cc (cc Zh)))) Zc)))))
   obtain ⟨r0, hw⟩ := hw
   (conv => whnf)
   refine AWP.weak r0 hw ?_
   refine nw ?_
   refine Zi hF (fun ZFd hF => ?_) (fun ZFd hF => ?_)
   ·refine AWP.seq ?_
    obtain ⟨ZFp, hF⟩ := Zy hF
    refine nn ?_
    refine Or.inl (Exists.intro 8 (Exists.intro [[], [], [], [], [], [], [], []] (Exists.intro [([78, 79, 80, 81, 82, 83, 84, 85], [], []), ([78, 79, 80, 81, 82, 83, 84, 85], [], []), ([78, 79, 80, 81, 82, 83, 84, 85], [], []), ([78, 81, 82, 83, 84, 85], [], []), ([78, 82, 83, 84, 85], [], []), ([78, 79, 80, 81, 82, 83, 84, 85], [], []), ([78, 84, 85], [], []), ([78, 85], [], [])] (Exists.intro [78, 79, 80, 81, 82, 83, 84, 85] (And.intro (by decide +kernel) ?_)))))
    refine dp ?_
    refine dp ?_
    refine dp ?_
    refine dr (Zab rfl ZAY) ?_
    refine dp ?_
    refine dp ?_
    refine dp ?_
    refine de (Zbt (f := Ze.cells) (ZdA (Ze.cells_eq (Ze.mk ZqO Zpl.1)) (lc (lc (lc (lc (lc Zo)))))) (ZY (f := Ze.cells))) ?_
    refine sa (fun l => ZbU l (fun x => Ze.cells_len x)) ZFp ?_
    refine Exists.intro _ (And.intro (WE.refl _) ?_)
    rw [← List.map_append]
    refine st ?_
    obtain ⟨ZEo, ZE6, hF⟩ := bind_some hF
    refine ns ?_
    refine e3 ?_
    refine st ?_
    refine cm (Zj.weak (rn [(10, 0)]) (ZfG Zc0 ([] : List ByteArray) Zpl.1 _ ZE6) rfl (WS.mk (Zd (Zam rfl (WE.refl _)) (Zd (Zr WE.nil) (Zd (Zt (lc (lc (lc (lc Zo))))) Zb))) Zc)) ?_
    refine st ?_
    refine ns ?_
    refine AWL.weak (rn [(8, 8), (86, 9), (89, 10)]) ?_ (Zek s ZiK (Zel ++ ([(Ze.mk ZqO Zpl.1)])) ZEo (Zhj + 1) t ZeF Zuc _ hF (ZgD ++ [ZqO]) (by rw [Znj]; simp) (by rw [Zni]; simp))
    exact (WS.mk (tc (tp (tp (tp (Zd (Zam rfl (WE.refl _)) (Zd (Zam rfl (WE.refl _)) (Zd (Zam rfl (WE.refl _)) (Zd (Zr (Zdf (ZV hlen209 ZB7))) Zb)))))))) (Zf rfl (cc (cc (cc (cc Zh)))) (Zf rfl (cc (cc (cc (cc Zh)))) (Zf rfl (cc (cc (cc (cc Zh)))) Zc))))
   ·refine nw ?_
    refine ns ?_
    refine AWL.weak (rn [(8, 8), (9, 9), (10, 10)]) ?_ (Zek s ZiK Zel Zc0 (Zhj + 1) t ZeF Zuc _ hF (ZgD ++ [ZqO]) (by rw [Znj]; simp) (by rw [Zni]; simp))
    exact (WS.mk (tc (tp (tp (tp (Zd (Zam rfl (WE.refl _)) (Zd (Zam rfl (WE.refl _)) (Zd (Zam rfl (WE.refl _)) (Zd (Zr (Zdf (ZV hlen209 ZB7))) Zb)))))))) (Zf rfl (cc (cc (cc (cc Zh)))) (Zf rfl (cc (cc (cc (cc Zh)))) (Zf rfl (cc (cc (cc (cc Zh)))) Zc))))
  ·subst Zzv
   refine nw ?_
   refine AWP.seq ?_
   refine ns ?_
   refine AWP.seq ?_
   refine AWP.seq ?_
   obtain ⟨ZED, ZFK, hF⟩ := bind_some hF
   refine ns ?_
   refine Exists.intro [10] (Exists.intro [] (Exists.intro [] ?_))
   refine st ?_
   refine cm (Zj.weak (rn []) (ZeM Zc0 t.fName _ ZFK) rfl (WS.mk (tc (tc Zb)) Zc)) ?_
   refine st ?_
   refine nw ?_
   refine Zi hF (fun ZES hF => ?_) (fun ZES hF => ?_)
   ·refine AWP.seq ?_
    refine ns ?_
    refine AWP.seq ?_
    obtain ⟨ZFW, hF⟩ := Zy hF
    refine nn ?_
    refine sa (fun l => ZbU l (fun x => ZfO x)) ZFW ?_
    refine Exists.intro _ (And.intro (WE.refl _) ?_)
    (try rw [List.nil_append])
    refine st ?_
    refine AWP.seq ?_
    obtain ⟨ZFN, hF⟩ := Zy hF
    refine nn ?_
    refine sa (fun l => ZbU l (fun x => ZfO x)) ZFN ?_
    refine Exists.intro _ (And.intro (WE.refl _) ?_)
    rw [← List.map_append]
    refine st ?_
    refine AWP.seq ?_
    obtain ⟨Zzk, ZGH, hF⟩ := bind_some hF
    refine ns ?_
    refine Exists.intro [100] (Exists.intro [] (Exists.intro [] ?_))
    refine st ?_
    refine cm (Zj.weak (rn []) (Zmd t.fName (ZiK ++ Zc0) _ ZGH) rfl (WS.mk (tc (tc Zb)) Zc)) ?_
    refine st ?_
    obtain ⟨Zy7, ZFR, hF⟩ := bind_some hF
    obtain ⟨ZEO, hF⟩ := Zy hF
    refine nn ?_
    refine Or.inl (Exists.intro 7 (Exists.intro [[], [], [], [], [], [], []] (Exists.intro [([105, 106, 107, 108, 109, 110, 111], [], []), ([105, 106, 107, 108, 109, 110, 111], [], []), ([105, 107, 108, 109, 110, 111], [], []), ([105, 106, 107, 108, 109, 110, 111], [], []), ([105, 106, 107, 109, 110, 111], [], []), ([105, 110, 111], [], []), ([105, 111], [], [])] (Exists.intro [105, 106, 107, 108, 109, 110, 111] (And.intro (by decide +kernel) ?_)))))
    refine dp ?_
    refine dp ?_
    refine dp ?_
    refine dp ?_
    (refine st ?_; apply Exists.intro; apply Exists.intro; apply And.intro; (focus ((conv => whnf); refine Exists.intro [] ?_; (conv => whnf); refine And.intro rfl ?_; (conv => whnf); refine Zj.mono (Zj.weak (rn []) (ZoG Zzk _ ZFR) rfl (WS.mk (tc Zb) Zc)) ?_; rintro d b ⟨rfl, rfl⟩; exact And.intro rfl (And.intro rfl rfl))); apply And.intro; (focus exact rfl); (conv => whnf))
    refine dp ?_
    refine de (Zbt (f := Ze.cells) (ZdA (Ze.cells_eq (Ze.mk t.fName Zy7)) (lc (lc (lc (lc (lc Zo)))))) (ZY (f := Ze.cells))) ?_
    refine sa (fun l => ZbU l (fun x => Ze.cells_len x)) ZEO ?_
    refine Exists.intro _ (And.intro (WE.refl _) ?_)
    rw [← List.map_append]
    refine st ?_
    refine AWP.weak (rn [(112, 9)]) ?_ (ZhL (Zel ++ ([(Ze.mk t.fName Zy7)])) Zzk t ZeF _ hF)
    exact (WS.mk (tp (tp (tp (Zd (Zam rfl (WE.refl _)) (tc Zb))))) (Zf rfl (cc (cc (cc (cc Zh)))) (Zf rfl (cc (cc (cc (cc Zh)))) (Zf rfl (cc (cc (cc (cc Zh)))) Zc))))
   ·refine nw ?_
    refine AWP.weak (rn [(9, 9)]) ?_ (ZhL Zel t.fName t ZeF _ hF)
    exact (WS.mk (tp (tp (tp (Zd (Zam rfl (WE.refl _)) (tc Zb))))) (Zf rfl (cc (cc (cc (cc Zh)))) (Zf rfl (cc (cc (cc (cc Zh)))) (Zf rfl (cc (cc (cc (cc Zh)))) Zc))))
 ·intro lazycref04_subst' Ze5 Zel Zio t ZeF r hF
  unfold Zb3.M
  refine AWP.seq ?_
  obtain ⟨ZCX, ZEN, hF⟩ := bind_some hF
  refine nn ?_
  refine Or.inr (Exists.intro [0, 1, 2, 3] (Exists.intro [[113, 114, 115, 116], [113, 114, 115, 116], [113, 115, 116], [113, 114, 115, 116]] (Exists.intro [3] (Exists.intro [3, 9, 14, 113, 114, 115, 116] (Exists.intro [113, 114, 115, 116] (Exists.intro [4, 5, 6, 7, 8] (And.intro (by decide +kernel) ?_)))))))
  refine dp ?_
  refine dp ?_
  refine dp ?_
  refine dp ?_
  refine st ?_
  refine Exists.intro [9] (Exists.intro [] (Exists.intro [] ?_))
  refine st ?_
  refine cm (Zj.weak (rn []) (Ze5 Zel ZeF _ ZEN) rfl (WS.mk (tc (Zd (Zt (lc (lc (lc (lc Zo))))) Zb)) Zc)) ?_
  refine st ?_
  refine Exists.intro _ (And.intro (Zbt (f := Za.cells) (ZdA (Za.cells_eq ZCX) (lc (lc (lc (lc Zo))))) (ZY (f := Za.cells))) ?_)
  refine st ?_
  obtain rfl := Zg hF
  refine ns ?_
  refine Exists.intro [] ?_
  refine st ?_
  exact wx (WS.mk (Zd (Zt (lc (lc (lc (lc Zo))))) Zb) Zc)
theorem ZnK : ∀ (s : (List Ze)) (t : Za), ∀ r, Zap s t = some r → Zap.M s t r := Zf3.1
theorem lazycref04_subst_l1_ok : ∀ (s : (List Ze)) (ZiK : ((List ByteArray))) (Zel : (List Ze)) (Zc0 : (List ByteArray)) (Zhj : Nat) (t : Za) (ZeF : Za) (ZdC : (List ByteArray)), ∀ r, ZbJ s ZiK Zel Zc0 Zhj t ZeF ZdC = some r → ZbJ.M s ZiK Zel Zc0 Zhj t ZeF ZdC r := Zf3.2.1
theorem lazycref04_subst_k2_ok : ∀ (Zel : (List Ze)) (Zio : ByteArray) (t : Za) (ZeF : Za), ∀ r, Zb3 Zel Zio t ZeF = some r → Zb3.M Zel Zio t ZeF r := Zf3.2.2

def Zbe (s : (List Ze)) (i_5 : Nat) (t : Za) (Zay : (List Ze)) : Option (Za) :=
 (match Zay with
 | x58 :: ZCH =>
 ZbB x58.fName >>= fun r61 =>
 (if (!r61) = true then some true else ZaH x58.fType >>= fun r62 =>
 some (r62 != 0)) >>= fun c63 =>
 if c63 = true then
 some (Za.mk 0 (ByteArray.mk #[]) (Zk.mk ([] : List Zk)) ([] : List Za))
 else
 Zbe s (i_5 + 1) t ZCH
 | [] =>
 ZaF s ([] : List ByteArray) t >>= fun r66 =>
 if ((decide (r66.1 > 20000)) || (decide (r66.2 > 100))) = true then
 some (Za.mk 0 (ByteArray.mk #[]) (Zk.mk ([] : List Zk)) ([] : List Za))
 else
 Zap s t >>= fun r70 =>
 some r70)
 partial_fixpoint
def Zbe.M (s : (List Ze)) (i_5 : Nat) (t : Za) (Zay : (List Ze)) (r : Za) : Prop :=
 ∀ Zdx : List Ze, s = Zdx ++ Zay → i_5 = Zdx.length → AWL Tryz.prog 51 (Code.sub (Zq Tryz.f17) [1, 1, 0, 1, 0, 0]) (Code.cont Tryz.prog 51 (Zq Tryz.f17) [1, 1, 0, 1, 0] (ZbW tab Tryz.f17.results (ZbY (.agg [.v (.int .i64 r.fOp), .v (.string r.fName), .sl (r.fBound.fArgs.map Zk.cells), .sl (r.fKids.map Za.cells)]) []))) ⟨[(0, .c none (.sl (s.map Ze.cells))), (3, .ptr 3 0), (4, .ptr 4 0), (5, .c none (.v (.int .i64 ((i_5 : Nat) : Int))))], [(3, [(none, .v (.int .i64 t.fOp)), (none, .v (.string t.fName)), (none, .sl (t.fBound.fArgs.map Zk.cells)), (none, .sl (t.fKids.map Za.cells))]), (4, [(none, .v (.int .i64 0)), (none, .v (.string (ByteArray.mk #[]))), (none, .nils), (none, .nils)])]⟩
theorem ZlA (s : (List Ze)) (i_5 : Nat) (t : Za) (Zay : (List Ze)) : ∀ r, Zbe s i_5 t Zay = some r → Zbe.M s i_5 t Zay r := by
 refine Zbe.partial_correctness s t (fun i_5 Zay r => Zbe.M s i_5 t Zay r) ?_ i_5 Zay
 intro lazycref04_Subst_l1' Zg8 i_5 Zay r hF
 have Zli := fun (_s : (List Ze)) (i_5 : Nat) (_t : Za) (Zay : (List Ze)) => Zg8 i_5 Zay
 clear Zg8
 unfold Zbe.M
 intro Zdx Zhs ZhA
 refine AWL.step ?_
 refine AWP.seq ?_
 refine AWP.seq ?_
 refine ns ?_
 intro hlen57
 (try rw [List.length_map] at hlen57)
 (try rw [List.length_map])
 refine st ?_
 refine nw ?_
 refine ZN Zhs ZhA (fun x58 ZCH ZDh ZF9 ZHL => ?_) (fun ZDh => ?_)
 ·subst ZDh
  refine nw ?_
  refine AWP.seq ?_
  refine AWP.block ?_
  refine AWP.seq ?_
  obtain ⟨r61, ZAR, hF⟩ := bind_some hF
  obtain ⟨c63, Zqa, hF⟩ := bind_some hF
  refine AWP.cutN (fun T => ∃ r, WS r T ⟨[(0, .c none (.sl (s.map Ze.cells))), (3, .ptr 3 0), (4, .ptr 4 0), (5, .c none (.v (.int .i64 ((i_5 : Nat) : Int)))), (33, .c none (.v (.bool c63)))], [(3, [(none, .v (.int .i64 t.fOp)), (none, .v (.string t.fName)), (none, .sl (t.fBound.fArgs.map Zk.cells)), (none, .sl (t.fKids.map Za.cells))]), (4, [(none, .v (.int .i64 0)), (none, .v (.string (ByteArray.mk #[]))), (none, .nils), (none, .nils)])]⟩) ?_ (fun T hw => ?_)
  ·refine nn ?_
   refine sr (Zab (f := Ze.cells) (Ze.cells_eq x58) ZF9) ?_
   refine st ?_
   refine e3 ?_
   refine st ?_
   refine cm (Zj.weak (rn []) (ZfF x58.fName _ ZAR) rfl (WS.mk (tc Zb) Zc)) ?_
   refine st ?_
   refine Zm false (fun ZrF => ?_) (fun ZrF => ?_)
   ·have Zqa := ift ZrF Zqa
    (conv => whnf)
    obtain rfl := Zg Zqa
    refine st ?_
    exact wx (WS.mk (tc (tp (tp (tc (Zd (Zr (web ZrF)) Zb))))) (Zf rfl (cc (cc (cc (cc Zh)))) (Zf rfl (cc (cc (cc (cc Zh)))) Zc)))
   ·have Zqa := ife ZrF Zqa
    obtain ⟨r62, ZDz, Zqa⟩ := bind_some Zqa
    (conv => whnf)
    refine sr (Zab (f := Ze.cells) (Ze.cells_eq x58) ZF9) ?_
    refine st ?_
    refine e3 ?_
    refine st ?_
    refine cm (Zj.weak (rn []) (ZdI x58.fType _ ZDz) rfl (WS.mk (Zd (Zt (lc (lc (lc (lc Zo))))) Zb) Zc)) ?_
    refine st ?_
    obtain rfl := Zg Zqa
    refine st ?_
    exact wx (WS.mk (tc (tp (tp (tc (Zd (Zr (web ZrF)) Zb))))) (Zf rfl (cc (cc (cc (cc Zh)))) (Zf rfl (cc (cc (cc (cc Zh)))) Zc)))
  obtain ⟨r0, hw⟩ := hw
  (conv => whnf)
  refine AWP.weak r0 hw ?_
  refine nw ?_
  refine Zi hF (fun Zz8 hF => ?_) (fun Zz8 hF => ?_)
  ·refine AWP.seq ?_
   refine ns ?_
   obtain rfl := Zg hF
   refine ns ?_
   refine Exists.intro [] ?_
   refine st ?_
   exact wx (WS.mk (Zd (Zt (lc (lc (ZaR WE.nil (ZaR WE.nil Zo))))) Zb) Zc)
  ·refine nw ?_
   refine ns ?_
   refine AWL.weak (rn []) ?_ (Zli s (i_5 + 1) t ZCH _ hF (Zdx ++ [x58]) (by rw [Zhs]; simp) (by rw [ZhA]; simp))
   exact (WS.mk (tc (tp (tp (Zd (Zr (Zdf (ZV hlen57 ZHL))) Zb)))) (Zf rfl (cc (cc (cc (cc Zh)))) (Zf rfl (cc (cc (cc (cc Zh)))) Zc)))
 ·subst ZDh
  refine nw ?_
  refine AWP.seq ?_
  obtain ⟨r66, ZIs, hF⟩ := bind_some hF
  refine ns ?_
  refine e3 ?_
  refine st ?_
  refine cm (Zj.weak (rn []) (Zl6 s ([] : List ByteArray) t _ ZIs) rfl (WS.mk (tc (Zd (Zr WE.nil) (Zd (Zt (lc (lc (lc (lc Zo))))) Zb))) Zc)) ?_
  refine st ?_
  refine AWP.seq ?_
  refine AWP.seq ?_
  refine AWP.cutN (fun T => ∃ r, WS r T ⟨[(0, .c none (.sl (s.map Ze.cells))), (3, .ptr 3 0), (4, .ptr 4 0), (46, .c none (.v (.bool ((decide (r66.1 > 20000)) || (decide (r66.2 > 100))))))], [(3, [(none, .v (.int .i64 t.fOp)), (none, .v (.string t.fName)), (none, .sl (t.fBound.fArgs.map Zk.cells)), (none, .sl (t.fKids.map Za.cells))]), (4, [(none, .v (.int .i64 0)), (none, .v (.string (ByteArray.mk #[]))), (none, .nils), (none, .nils)])]⟩) ?_ (fun T hw => ?_)
  ·refine ns ?_
   refine Zm false (fun ZEq => ?_) (fun ZEq => ?_)
   ·(conv => whnf)
    refine st ?_
    exact wx (WS.mk (tc (tp (tp (Zd (Zr (web ZEq)) Zb)))) (Zf rfl (cc (cc (cc (cc Zh)))) (Zf rfl (cc (cc (cc (cc Zh)))) Zc)))
   ·(conv => whnf)
    refine st ?_
    exact wx (WS.mk (tc (tp (tp (Zd (Zr (web ZEq)) Zb)))) (Zf rfl (cc (cc (cc (cc Zh)))) (Zf rfl (cc (cc (cc (cc Zh)))) Zc)))
  obtain ⟨r0, hw⟩ := hw
  (conv => whnf)
  refine AWP.weak r0 hw ?_
  refine nw ?_
  refine Zi hF (fun ZD1 hF => ?_) (fun ZD1 hF => ?_)
  ·refine AWP.seq ?_
   refine ns ?_
   obtain rfl := Zg hF
   refine ns ?_
   refine Exists.intro [] ?_
   refine st ?_
   exact wx (WS.mk (Zd (Zt (lc (lc (ZaR WE.nil (ZaR WE.nil Zo))))) Zb) Zc)
  ·refine nw ?_
   refine AWP.seq ?_
   obtain ⟨r70, ZCn, hF⟩ := bind_some hF
   refine ns ?_
   refine e3 ?_
   refine st ?_
   refine cm (Zj.weak (rn []) (ZnK s t _ ZCn) rfl (WS.mk (tc (Zd (Zt (lc (lc (lc (lc Zo))))) Zb)) Zc)) ?_
   refine st ?_
   obtain rfl := Zg hF
   refine ns ?_
   refine Exists.intro [] ?_
   refine st ?_
   exact wx (WS.mk (Zd (Zt (lc (lc (lc (lc Zo))))) Zb) Zc)

def Za2 (s : (List Ze)) (t : Za) : Option (Za) :=
 ZaH t >>= fun r3 =>
 if (r3 != 0) = true then
 some (Za.mk 0 (ByteArray.mk #[]) (Zk.mk ([] : List Zk)) ([] : List Za))
 else
 Zbe s 0 t s
def Za2.M (s : (List Ze)) (t : Za) (r : Za) : Prop :=
 Zj Tryz.prog 17 [.c none (.sl (s.map Ze.cells)), .agg [.v (.int .i64 t.fOp), .v (.string t.fName), .sl (t.fBound.fArgs.map Zk.cells), .sl (t.fKids.map Za.cells)]] [] (fun d b => d = .agg [.v (.int .i64 r.fOp), .v (.string r.fName), .sl (r.fBound.fArgs.map Zk.cells), .sl (r.fKids.map Za.cells)] ∧ b = [])
theorem Ze4 (s : (List Ze)) (t : Za) (r : Za) (hF : Za2 s t = some r) : Za2.M s t r := by
 unfold Za2 at hF
 unfold Za2.M
 refine en Tryz.func17 ?_
 refine AWP.seq ?_
 refine ns ?_
 refine AWP.seq ?_
 refine AWP.seq ?_
 obtain ⟨r3, hr3, hF⟩ := bind_some hF
 refine ns ?_
 refine e3 ?_
 refine st ?_
 refine cm (Zj.weak (rn []) (ZdI t _ hr3) rfl (WS.mk (Zd (Zt (lc (lc (lc (lc Zo))))) Zb) Zc)) ?_
 refine st ?_
 refine nw ?_
 refine Zi hF (fun hc4 hF => ?_) (fun hc4 hF => ?_)
 ·refine AWP.seq ?_
  refine ns ?_
  obtain rfl := Zg hF
  refine ns ?_
  refine Exists.intro [] ?_
  refine st ?_
  exact wx (WS.mk (Zd (Zt (lc (lc (ZaR WE.nil (ZaR WE.nil Zo))))) Zb) Zc)
 ·refine nw ?_
  refine AWP.seq ?_
  refine AWP.seq ?_
  refine ns ?_
  refine AWP.block ?_
  refine AWP.loop ?_
  refine AWL.weak (rn []) ?_ (ZlA s 0 t s _ hF ([]) rfl rfl)
  exact (WS.mk (tc (tp (tp (tc Zb)))) (Zf rfl (cc (cc (cc (cc Zh)))) (Zf rfl (cc (cc (cc (cc Zh)))) Zc)))

def Zac (v : ByteArray) (r5 : (Za)) (s : Zu) (Zlf : Nat) (ZD : (List Ze)) : Option (Int × Zu) :=
 if (decide (((Zlf : Nat) : Int) < ((s.flist.length : Nat) : Int))) = true then
 (ZD[Zlf]?) >>= fun x52 =>
 Zeg ([(Ze.mk v r5)]) x52.fType >>= fun r53 =>
 if (r53.fOp == 0) = true then
 some (3, Zu.mk ZD s.fat)
 else
 (ZD[Zlf]?) >>= fun x57 =>
 Zac v r5 s (Zlf + 1) (ZD.set Zlf (Ze.mk x57.fName r53))
 else
 Z5 ((ZD.length + ([(Ze.mk v r5)]).length) * 88 ≤ 140737488355328) >>= fun _ =>
 some (0, Zu.mk (ZD ++ ([(Ze.mk v r5)])) (ZhW s.fat v ((ZD.length : Nat) : Int)))
 partial_fixpoint
def Zac.M (v : ByteArray) (r5 : (Za)) (s : Zu) (Zlf : Nat) (ZD : (List Ze)) (r : Int × Zu) : Prop :=
 s.flist.length ≤ maxLen → AWL Tryz.prog 77 (Code.sub (Zq Tryz.f53) [1, 1, 1, 1, 1, 0, 1, 0, 0]) (Code.cont Tryz.prog 77 (Zq Tryz.f53) [1, 1, 1, 1, 1, 0, 1, 0] (ZbW tab Tryz.f53.results (ZbY (.c none (.v (.int .i64 r.1))) [(1000, [(none, .rs 7001 r.2.flist.length), (none, .rf 1002)]), (1002, [(none, .ob 109 (r.2.fat.map (Zec c_S Zcv)))]), (7001, [(none, .ob 90 (r.2.flist.map Ze.cells))])]))) ⟨[(0, .ptr 1000 0), (1, .c none (.v (.string v))), (8, .c (some (8, 45)) (.sl (([(Ze.mk v r5)]).map Ze.cells))), (32, .c none (.rs 7001 ZD.length)), (33, .c none (.v (.int .i64 ((s.flist.length : Nat) : Int)))), (34, .c none (.v (.int .i64 ((Zlf : Nat) : Int))))], [(1000, [(none, .rs 7001 ZD.length), (none, .rf 1002)]), (1002, [(none, .ob 109 (s.fat.map (Zec c_S Zcv)))]), (7001, [(none, .ob 90 (ZD.map Ze.cells))])]⟩
theorem ZkX (v : ByteArray) (r5 : (Za)) (s : Zu) (Zlf : Nat) (ZD : (List Ze)) : ∀ r, Zac v r5 s Zlf ZD = some r → Zac.M v r5 s Zlf ZD r := by
 refine Zac.partial_correctness v r5 s (fun Zlf ZD r => Zac.M v r5 s Zlf ZD r) ?_ Zlf ZD
 intro unify_solver_bind_l1' ZgC Zlf ZD r hF
 have Zk9 := fun (_v : ByteArray) (_r5 : (Za)) (_s : Zu) (Zlf : Nat) (ZD : (List Ze)) => ZgC Zlf ZD
 clear ZgC
 unfold Zac.M
 intro hlen33
 refine AWL.step ?_
 refine AWP.seq ?_
 refine ns ?_
 refine AWP.seq ?_
 refine nw ?_
 refine Zi hF (fun ZpC hF => ?_) (fun ZpC hF => ?_)
 ·have ZD5 := ZpF ZpC
  refine nw ?_
  refine AWP.seq ?_
  refine AWP.block ?_
  refine AWP.seq ?_
  obtain ⟨x52, ZEy, hF⟩ := bind_some hF
  refine ns ?_
  refine And.intro (Zt5 ZEy) ?_
  refine st ?_
  refine sr (Zab (f := Ze.cells) (Ze.cells_eq x52) ZEy) ?_
  refine st ?_
  refine AWP.seq ?_
  obtain ⟨r53, ZzV, hF⟩ := bind_some hF
  refine ns ?_
  refine Exists.intro [8] (Exists.intro [] (Exists.intro [] ?_))
  refine st ?_
  refine cm (Zj.weak (rn []) (Zqn ([(Ze.mk v r5)]) x52.fType _ ZzV) rfl (WS.mk (tc (Zd (Zt (lc (lc (lc (lc Zo))))) Zb)) Zc)) ?_
  refine st ?_
  refine AWP.seq ?_
  refine AWP.seq ?_
  refine ns ?_
  refine nw ?_
  refine Zi hF (fun Zto hF => ?_) (fun Zto hF => ?_)
  ·refine AWP.seq ?_
   refine ns ?_
   obtain rfl := Zg hF
   refine ns ?_
   refine Exists.intro [(1000, 1000), (7001, 7001), (1002, 1002)] ?_
   refine st ?_
   exact wx (WS.mk (tc Zb) (Zf rfl (Ze2 (Zaf (by first | exact rfl | simp only [List.length_set])) (cc Zh)) (Zf rfl (cc Zh) (Zf rfl (cc Zh) Zc))))
  ·refine nw ?_
   obtain ⟨x57, ZFU, hF⟩ := bind_some hF
   refine nn ?_
   refine Or.inl (Exists.intro 6 (Exists.intro [[], [], [], [], [], []] (Exists.intro [([46, 47, 48, 49, 50, 51], [], []), ([47, 48, 49, 50, 51], [], []), ([48, 49, 50, 51], [], []), ([49, 50, 51], [], []), ([46, 47, 48, 49, 50, 51], [], []), ([46, 47, 48, 49, 50, 51], [], [])] (Exists.intro [46, 47, 48, 49, 50, 51] (And.intro (by decide +kernel) ?_)))))
   refine dp ?_
   refine dp ?_
   refine dp ?_
   refine dp ?_
   refine dp ?_
   refine dp ?_
   refine st ?_
   refine And.intro (Zt5 ZFU) ?_
   refine st ?_
   refine sr (Zab (f := Ze.cells) (Ze.cells_eq x57) ZFU) ?_
   refine Exists.intro ((ZD.set Zlf (Ze.mk x57.fName r53)).map Ze.cells) (And.intro (ZDX (ZdA (Ze.cells_eq (Ze.mk x57.fName r53)) (lc (lc (lc (lc (lc Zo))))))) ?_)
   refine st ?_
   refine ns ?_
   refine AWL.weak (rn [(8, 8)]) ?_ (Zk9 v r5 s (Zlf + 1) (ZD.set Zlf (Ze.mk x57.fName r53)) _ hF hlen33)
   exact (WS.mk (tp (tc (Zd (Zam rfl (WE.refl _)) (Zd (Zr (Zaf (by first | exact rfl | simp only [List.length_set]))) (tc (Zd (Zr (Zdf (ZV hlen33 ZD5))) Zb)))))) (Zf rfl (Ze2 (Zaf (by first | exact rfl | simp only [List.length_set])) (cc Zh)) (Zf rfl (cc Zh) (Zf rfl (cc Zh) Zc))))
 ·refine nw ?_
  refine AWP.seq ?_
  refine nn ?_
  refine Or.inl (Exists.intro 10 (Exists.intro [[], [], [], [], [], [], [], [], [], []] (Exists.intro [([55, 56, 57, 58, 59, 60, 61, 62, 63, 64], [], []), ([56, 57, 58, 59, 60, 61, 62, 63, 64], [], []), ([57, 58, 59, 60, 61, 62, 63, 64], [], []), ([58, 59, 60, 61, 62, 63, 64], [], []), ([55, 56, 57, 58, 59, 60, 61, 62, 63, 64], [], []), ([55, 56, 57, 58, 59, 60, 61, 62, 63, 64], [], []), ([55, 56, 57, 58, 59, 61, 62, 63, 64], [], []), ([55, 56, 57, 58, 59, 62, 63, 64], [], []), ([55, 56, 57, 58, 59, 63, 64], [], []), ([55, 56, 57, 58, 59, 64], [], [])] (Exists.intro [55, 56, 57, 58, 59, 60, 61, 62, 63, 64] (And.intro (by decide +kernel) ?_)))))
  refine dp ?_
  refine dp ?_
  refine dp ?_
  refine dp ?_
  refine dp ?_
  refine dp ?_
  refine dp ?_
  refine dp ?_
  refine dp ?_
  refine dl ?_
  refine st ?_
  refine Zo3 (m := s.fat) (k := v) (v := ((ZD.length : Nat) : Int)) ZhN (ev := Zcv) (lc Zo) ?_
  refine st ?_
  refine AWP.seq ?_
  obtain ⟨ZHz, hF⟩ := Zy hF
  refine nn ?_
  refine Or.inr (Exists.intro [0, 5, 6, 7, 8] (Exists.intro [[65, 70, 71, 72, 73], [65, 70, 71, 72, 73], [65, 71, 72, 73], [65, 72, 73], [65, 73]] (Exists.intro [] (Exists.intro [0, 8, 65, 70, 71, 72, 73] (Exists.intro [65, 70, 71, 72, 73] (Exists.intro [1, 2, 3, 4, 9, 10, 11, 12] (And.intro (by decide +kernel) ?_)))))))
  refine dp ?_
  refine dp ?_
  refine dp ?_
  refine dp ?_
  refine de (Zbt (f := Ze.cells) (ZdA (Ze.cells_eq (Ze.mk v r5)) (lc (lc (lc (lc (lc Zo)))))) (ZY (f := Ze.cells))) ?_
  refine sa (fun l => ZbU l (fun x => Ze.cells_len x)) ZHz ?_
  refine Exists.intro (([(Ze.mk v r5)]).map Ze.cells) (Exists.intro ((ZD ++ ([(Ze.mk v r5)])).map Ze.cells) (Exists.intro (ZD ++ ([(Ze.mk v r5)])).length (And.intro (WE.refl _) (And.intro (Zry (by first | exact rfl | simp only [List.length_set])) (And.intro (ZrI (by first | exact rfl | simp only [List.length_set]) (by first | exact List.length_map _ | exact rfl)) ?_)))))
  refine st ?_
  refine AWP.seq ?_
  refine ns ?_
  obtain rfl := Zg hF
  refine ns ?_
  refine Exists.intro [(1000, 1000), (7001, 7001), (1002, 1002)] ?_
  refine st ?_
  exact wx (WS.mk (tc Zb) (Zf rfl (Ze2 (Zaf (by first | exact rfl | simp only [List.length_set])) (cc Zh)) (Zf rfl (cc Zh) (Zf rfl (cc Zh) Zc))))

def ZaC (s : Zu) (v : ByteArray) (t : Za) : Option (Int × Zu) :=
 ZcC s v t >>= fun r3 =>
 if r3 = true then
 some (23, s)
 else
 ZeO s.flist t >>= fun r5 =>
 if (r5.fOp == 0) = true then
 some (3, s)
 else
 Zac v r5 s 0 s.flist
def ZaC.M (s : Zu) (v : ByteArray) (t : Za) (r : Int × Zu) : Prop :=
 Zj Tryz.prog 53 [.ptr 1000 0, .c none (.v (.string v)), .agg [.v (.int .i64 t.fOp), .v (.string t.fName), .sl (t.fBound.fArgs.map Zk.cells), .sl (t.fKids.map Za.cells)]] [(1000, [(none, .rs 7001 s.flist.length), (none, .rf 1002)]), (1002, [(none, .ob 109 (s.fat.map (Zec c_S Zcv)))]), (7001, [(none, .ob 90 (s.flist.map Ze.cells))])] (fun d b => d = .c none (.v (.int .i64 r.1)) ∧ b = [(1000, [(none, .rs 7001 r.2.flist.length), (none, .rf 1002)]), (1002, [(none, .ob 109 (r.2.fat.map (Zec c_S Zcv)))]), (7001, [(none, .ob 90 (r.2.flist.map Ze.cells))])])
theorem Ziw (s : Zu) (v : ByteArray) (t : Za) (r : Int × Zu) (hF : ZaC s v t = some r) : ZaC.M s v t r := by
 unfold ZaC at hF
 unfold ZaC.M
 refine en Tryz.func53 ?_
 refine AWP.seq ?_
 refine ns ?_
 refine AWP.seq ?_
 refine AWP.seq ?_
 obtain ⟨r3, hr3, hF⟩ := bind_some hF
 refine ns ?_
 refine Exists.intro [] (Exists.intro [(1000, 1000), (7001, 1001), (1002, 1002)] (Exists.intro [] ?_))
 refine st ?_
 refine cm (Zj.weak (rn []) (ZlF s v t _ hr3) rfl (WS.mk (tp (tc (Zd (Zt (lc (lc (lc (lc Zo))))) Zb))) (Zf rfl (Ze2 (Zaf (by first | exact rfl | simp only [List.length_set])) (cc Zh)) (Zf rfl (cc Zh) (Zf rfl (cc Zh) Zc))))) ?_
 refine st ?_
 refine nw ?_
 refine Zi hF (fun hc4 hF => ?_) (fun hc4 hF => ?_)
 ·refine AWP.seq ?_
  refine ns ?_
  obtain rfl := Zg hF
  refine ns ?_
  refine Exists.intro [(1000, 1000), (7001, 7001), (1002, 1002)] ?_
  refine st ?_
  exact wx (WS.mk (tc Zb) (Zf rfl (Ze2 (Zaf (by first | exact rfl | simp only [List.length_set])) (cc Zh)) (Zf rfl (cc Zh) (Zf rfl (cc Zh) Zc))))
 ·refine nw ?_
  refine AWP.seq ?_
  obtain ⟨r5, hr5, hF⟩ := bind_some hF
  refine nn ?_
  refine Or.inl (Exists.intro 7 (Exists.intro [[], [], [], [], [], [7001], [7]] (Exists.intro [([16, 17, 18, 19, 20, 21, 7], [7], []), ([17, 18, 19, 20, 21, 7], [7], []), ([18, 19, 20, 21, 7], [7], []), ([19, 20, 21, 7], [7], []), ([16, 17, 18, 19, 20, 21, 7], [7], []), ([21, 7], [7], [7001]), ([16, 17, 18, 19, 20, 21, 7], [7001], [7])] (Exists.intro [16, 17, 18, 19, 20, 21, 7] (And.intro (by decide +kernel) ?_)))))
  refine dp ?_
  refine dp ?_
  refine dp ?_
  refine dp ?_
  refine dp ?_
  (refine st ?_; apply Exists.intro; apply Exists.intro; apply And.intro; (focus ((conv => whnf); refine Exists.intro [(7001, 1000)] ?_; (conv => whnf); refine And.intro rfl ?_; (conv => whnf); refine Zj.mono (Zj.weak (rn []) (ZrJ s.flist t _ hr5) rfl (WS.mk (Zd (Zr (Zaf (by first | exact rfl | simp only [List.length_set]))) (Zd (Zt (lc (lc (lc (lc Zo))))) Zb)) (Zf rfl (cc Zh) Zc))) ?_; rintro d b ⟨rfl, rfl⟩; exact And.intro rfl (And.intro rfl rfl))); apply And.intro; (focus exact rfl); (conv => whnf))
  refine dp ?_
  refine st ?_
  refine AWP.seq ?_
  refine AWP.seq ?_
  refine ns ?_
  refine nw ?_
  refine Zi hF (fun hc7 hF => ?_) (fun hc7 hF => ?_)
  ·refine AWP.seq ?_
   refine ns ?_
   obtain rfl := Zg hF
   refine ns ?_
   refine Exists.intro [(1000, 1000), (7001, 7001), (1002, 1002)] ?_
   refine st ?_
   exact wx (WS.mk (tc Zb) (Zf rfl (Ze2 (Zaf (by first | exact rfl | simp only [List.length_set])) (cc Zh)) (Zf rfl (cc Zh) (Zf rfl (cc Zh) Zc))))
  ·refine nw ?_
   refine AWP.seq ?_
   refine ns ?_
   refine Exists.intro _ (And.intro (Zbt (f := Ze.cells) (ZdA (Ze.cells_eq (Ze.mk v r5)) (lc (lc (lc (lc (lc Zo)))))) (ZY (f := Ze.cells))) ?_)
   refine st ?_
   refine AWP.seq ?_
   refine AWP.seq ?_
   refine ns ?_
   intro hlen33
   (try rw [List.length_map] at hlen33)
   (try rw [List.length_map])
   refine st ?_
   refine AWP.block ?_
   refine AWP.loop ?_
   refine AWL.weak (rn [(28, 8)]) ?_ (ZkX v r5 s 0 s.flist _ hF hlen33)
   exact (WS.mk (tp (tc (Zd (Zam rfl (WE.refl _)) (Zd (Zr (Zaf (by first | exact rfl | simp only [List.length_set]))) (tc (tc Zb)))))) (Zf rfl (Ze2 (Zaf (by first | exact rfl | simp only [List.length_set])) (cc Zh)) (Zf rfl (cc Zh) (Zf rfl (cc Zh) Zc))))

def ZbC (s : (List Ze)) (name_ : ByteArray) (r5 : (Za)) (Zgv : (List Ze)) (Zhj : Nat) (ZdC : (List Ze)) : Option ((List Ze) × Int) :=
 (match ZdC with
 | x71 :: ZCR =>
 Za2 ([(Ze.mk name_ r5)]) x71.fType >>= fun r74 =>
 if (r74.fOp == 0) = true then
 some (([] : List Ze), 3)
 else
 Z5 ((Zgv.length + ([(Ze.mk x71.fName r74)]).length) * 88 ≤ 140737488355328) >>= fun _ =>
 ZbC s name_ r5 (Zgv ++ ([(Ze.mk x71.fName r74)])) (Zhj + 1) ZCR
 | [] =>
 Z5 ((Zgv.length + ([(Ze.mk name_ r5)]).length) * 88 ≤ 140737488355328) >>= fun _ =>
 some (Zgv ++ ([(Ze.mk name_ r5)]), 0))
 partial_fixpoint
def ZbC.M (s : (List Ze)) (name_ : ByteArray) (r5 : (Za)) (Zgv : (List Ze)) (Zhj : Nat) (ZdC : (List Ze)) (r : (List Ze) × Int) : Prop :=
 ∀ ZgD : List Ze, s = ZgD ++ ZdC → Zhj = ZgD.length → AWL Tryz.prog 60 (Code.sub (Zq Tryz.f35) [1, 1, 1, 1, 1, 1, 0, 1, 0, 0]) (Code.cont Tryz.prog 60 (Zq Tryz.f35) [1, 1, 1, 1, 1, 1, 0, 1, 0] (ZbW tab Tryz.f35.results (ZbY (.tup [.c (.sl (r.1.map Ze.cells)), .c (.v (.int .i64 r.2))]) []))) ⟨[(0, .c none (.sl (s.map Ze.cells))), (9, .c (some (9, 45)) (.sl (([(Ze.mk name_ r5)]).map Ze.cells))), (10, .c (some (10, 45)) (.sl (Zgv.map Ze.cells))), (11, .c none (.v (.int .i64 ((Zhj : Nat) : Int))))], []⟩
theorem Zl5 (s : (List Ze)) (name_ : ByteArray) (r5 : (Za)) (Zgv : (List Ze)) (Zhj : Nat) (ZdC : (List Ze)) : ∀ r, ZbC s name_ r5 Zgv Zhj ZdC = some r → ZbC.M s name_ r5 Zgv Zhj ZdC r := by
 refine ZbC.partial_correctness s name_ r5 (fun Zgv Zhj ZdC r => ZbC.M s name_ r5 Zgv Zhj ZdC r) ?_ Zgv Zhj ZdC
 intro lazycref18_bind_l1' Zhu Zgv Zhj ZdC r hF
 have Zmc := fun (_s : (List Ze)) (_name_ : ByteArray) (_r5 : (Za)) (Zgv : (List Ze)) (Zhj : Nat) (ZdC : (List Ze)) => Zhu Zgv Zhj ZdC
 clear Zhu
 unfold ZbC.M
 intro ZgD Znj Zni
 refine AWL.step ?_
 refine AWP.seq ?_
 refine AWP.seq ?_
 refine ns ?_
 intro hlen70
 (try rw [List.length_map] at hlen70)
 (try rw [List.length_map])
 refine st ?_
 refine nw ?_
 refine ZN Znj Zni (fun x71 ZCR ZEa ZE9 ZHy => ?_) (fun ZEa => ?_)
 ·subst ZEa
  refine nw ?_
  refine AWP.seq ?_
  refine AWP.block ?_
  refine AWP.seq ?_
  obtain ⟨r74, ZIR, hF⟩ := bind_some hF
  refine nn ?_
  refine sr (Zab (f := Ze.cells) (Ze.cells_eq x71) ZE9) ?_
  refine st ?_
  refine Exists.intro [9] (Exists.intro [] (Exists.intro [] ?_))
  refine st ?_
  refine cm (Zj.weak (rn []) (Ze4 ([(Ze.mk name_ r5)]) x71.fType _ ZIR) rfl (WS.mk (tc (Zd (Zt (lc (lc (lc (lc Zo))))) Zb)) Zc)) ?_
  refine st ?_
  refine AWP.seq ?_
  refine AWP.seq ?_
  refine ns ?_
  refine nw ?_
  refine Zi hF (fun ZzX hF => ?_) (fun ZzX hF => ?_)
  ·refine AWP.seq ?_
   refine ns ?_
   obtain rfl := Zg hF
   refine ns ?_
   refine Exists.intro [] ?_
   refine st ?_
   exact wx (WS.mk (Zd (Zc9 (ZcG WE.nil (ZcG (WE.refl _) Zc7))) Zb) Zc)
  ·refine nw ?_
   obtain ⟨ZHr, hF⟩ := Zy hF
   refine nn ?_
   refine Or.inl (Exists.intro 9 (Exists.intro [[], [], [], [], [], [], [], [], []] (Exists.intro [([44, 45, 46, 47, 48, 49, 50, 51, 52], [], []), ([44, 45, 46, 47, 48, 49, 50, 51, 52], [], []), ([44, 45, 46, 47, 48, 49, 50, 51, 52], [], []), ([44, 47, 48, 49, 50, 51, 52], [], []), ([44, 48, 49, 50, 51, 52], [], []), ([44, 49, 50, 51, 52], [], []), ([44, 45, 46, 47, 48, 49, 50, 51, 52], [], []), ([44, 51, 52], [], []), ([44, 52], [], [])] (Exists.intro [44, 45, 46, 47, 48, 49, 50, 51, 52] (And.intro (by decide +kernel) ?_)))))
   refine dp ?_
   refine dp ?_
   refine dp ?_
   refine dr (Zab (Ze.cells_eq x71) ZE9) ?_
   refine dp ?_
   refine dp ?_
   refine dp ?_
   refine dp ?_
   refine de (Zbt (f := Ze.cells) (ZdA (Ze.cells_eq (Ze.mk x71.fName r74)) (lc (lc (lc (lc (lc Zo)))))) (ZY (f := Ze.cells))) ?_
   refine sa (fun l => ZbU l (fun x => Ze.cells_len x)) ZHr ?_
   refine Exists.intro _ (And.intro (WE.refl _) ?_)
   rw [← List.map_append]
   refine st ?_
   refine ns ?_
   refine AWL.weak (rn [(9, 9), (53, 10)]) ?_ (Zmc s name_ r5 (Zgv ++ ([(Ze.mk x71.fName r74)])) (Zhj + 1) ZCR _ hF (ZgD ++ [x71]) (by rw [Znj]; simp) (by rw [Zni]; simp))
   exact (WS.mk (tc (Zd (Zam rfl (WE.refl _)) (Zd (Zam rfl (WE.refl _)) (Zd (Zr (Zdf (ZV hlen70 ZHy))) Zb)))) Zc)
 ·subst ZEa
  refine nw ?_
  refine AWP.seq ?_
  obtain ⟨ZHc, hF⟩ := Zy hF
  refine ns ?_
  refine Exists.intro _ (And.intro (Zbt (f := Ze.cells) (ZdA (Ze.cells_eq (Ze.mk name_ r5)) (lc (lc (lc (lc (lc Zo)))))) (ZY (f := Ze.cells))) ?_)
  refine sa (fun l => ZbU l (fun x => Ze.cells_len x)) ZHc ?_
  refine Exists.intro _ (And.intro (WE.refl _) ?_)
  rw [← List.map_append]
  refine st ?_
  obtain rfl := Zg hF
  refine ns ?_
  refine Exists.intro [] ?_
  refine st ?_
  exact wx (WS.mk (Zd (Zc9 (ZcG (WE.refl _) (ZcG (WE.refl _) Zc7))) Zb) Zc)

def Za6 (s : (List Ze)) (name_ : ByteArray) (t : Za) : Option ((List Ze) × Int) :=
 Z2 s name_ t >>= fun r3 =>
 if r3 = true then
 some (([] : List Ze), 23)
 else
 Za2 s t >>= fun r5 =>
 if (r5.fOp == 0) = true then
 some (([] : List Ze), 3)
 else
 ZbC s name_ r5 ([] : List Ze) 0 s
def Za6.M (s : (List Ze)) (name_ : ByteArray) (t : Za) (r : (List Ze) × Int) : Prop :=
 Zj Tryz.prog 35 [.c none (.sl (s.map Ze.cells)), .c none (.v (.string name_)), .agg [.v (.int .i64 t.fOp), .v (.string t.fName), .sl (t.fBound.fArgs.map Zk.cells), .sl (t.fKids.map Za.cells)]] [] (fun d b => d = .tup [.c (.sl (r.1.map Ze.cells)), .c (.v (.int .i64 r.2))] ∧ b = [])
theorem Zjr (s : (List Ze)) (name_ : ByteArray) (t : Za) (r : (List Ze) × Int) (hF : Za6 s name_ t = some r) : Za6.M s name_ t r := by
 unfold Za6 at hF
 unfold Za6.M
 refine en Tryz.func35 ?_
 refine AWP.seq ?_
 refine ns ?_
 refine AWP.seq ?_
 refine AWP.seq ?_
 obtain ⟨r3, hr3, hF⟩ := bind_some hF
 refine ns ?_
 refine e3 ?_
 refine st ?_
 refine cm (Zj.weak (rn []) (Zmr s name_ t _ hr3) rfl (WS.mk (tc (tc (Zd (Zt (lc (lc (lc (lc Zo))))) Zb))) Zc)) ?_
 refine st ?_
 refine nw ?_
 refine Zi hF (fun hc4 hF => ?_) (fun hc4 hF => ?_)
 ·refine AWP.seq ?_
  refine ns ?_
  obtain rfl := Zg hF
  refine ns ?_
  refine Exists.intro [] ?_
  refine st ?_
  exact wx (WS.mk (Zd (Zc9 (ZcG WE.nil (ZcG (WE.refl _) Zc7))) Zb) Zc)
 ·refine nw ?_
  refine AWP.seq ?_
  obtain ⟨r5, hr5, hF⟩ := bind_some hF
  refine ns ?_
  refine e3 ?_
  refine st ?_
  refine cm (Zj.weak (rn []) (Ze4 s t _ hr5) rfl (WS.mk (tc (Zd (Zt (lc (lc (lc (lc Zo))))) Zb)) Zc)) ?_
  refine st ?_
  refine AWP.seq ?_
  refine AWP.seq ?_
  refine ns ?_
  refine nw ?_
  refine Zi hF (fun hc7 hF => ?_) (fun hc7 hF => ?_)
  ·refine AWP.seq ?_
   refine ns ?_
   obtain rfl := Zg hF
   refine ns ?_
   refine Exists.intro [] ?_
   refine st ?_
   exact wx (WS.mk (Zd (Zc9 (ZcG WE.nil (ZcG (WE.refl _) Zc7))) Zb) Zc)
  ·refine nw ?_
   refine AWP.seq ?_
   refine ns ?_
   refine Exists.intro _ (And.intro (Zbt (f := Ze.cells) (ZdA (Ze.cells_eq (Ze.mk name_ r5)) (lc (lc (lc (lc (lc Zo)))))) (ZY (f := Ze.cells))) ?_)
   refine st ?_
   refine AWP.seq ?_
   refine ns ?_
   refine Exists.intro _ (And.intro (ZY (f := Ze.cells)) ?_)
   refine st ?_
   refine AWP.seq ?_
   refine AWP.seq ?_
   refine ns ?_
   refine AWP.block ?_
   refine AWP.loop ?_
   refine AWL.weak (rn [(26, 9), (27, 10)]) ?_ (Zl5 s name_ r5 ([] : List Ze) 0 s _ hF ([]) rfl rfl)
   exact (WS.mk (tc (Zd (Zam rfl (WE.refl _)) (Zd (Zam rfl (WE.refl _)) (tc Zb)))) Zc)

mutual
def ZB (Zax : (List (ByteArray × Int))) (ZD : (List Ze)) (Zbo : (List Zl)) : Option (Int × Zu × (List Zl)) :=
 if (decide (((Zbo.length : Nat) : Int) > 0)) = true then
 (ixI Zbo (IntKind.i64.wrap (((Zbo.length : Nat) : Int) - 1))) >>= fun x95 =>
 ZaP (Zu.mk ZD Zax) x95.e0 >>= fun r96 =>
 (ixI Zbo (IntKind.i64.wrap (((Zbo.length : Nat) : Int) - 1))) >>= fun x97 =>
 ZaP (Zu.mk ZD Zax) x97.e1 >>= fun r98 =>
 (slL Zbo ((0 : Nat) : Int) (IntKind.i64.wrap (((Zbo.length : Nat) : Int) - 1))) >>= fun Zje =>
 if (((r96.fOp == 1) && (r98.fOp == 1)) && (r96.fName.toList == r98.fName.toList)) = true then
 Zp 0 Zax ZD Zje
 else
 if (r96.fOp == 1) = true then
 ZaC (Zu.mk ZD Zax) r96.fName r98 >>= fun ZvG =>
 Zp ZvG.1 ZvG.2.fat ZvG.2.flist Zje
 else
 if (r98.fOp == 1) = true then
 ZaC (Zu.mk ZD Zax) r98.fName r96 >>= fun Zwq =>
 Zp Zwq.1 Zwq.2.fat Zwq.2.flist Zje
 else
 if (((r96.fOp == 2) && (r98.fOp == 2)) && (r96.fName.toList == r98.fName.toList)) = true then
 Zp 0 Zax ZD Zje
 else
 if ((r96.fOp == 3) && (r98.fOp == 3)) = true then
 (ixI r96.fKids 1) >>= fun ZtS =>
 (ixI r98.fKids 1) >>= fun Ztp =>
 (ixI r96.fKids 0) >>= fun Zt2 =>
 (ixI r98.fKids 0) >>= fun ZtG =>
 Z5 ((Zje.length + ([(Zl.mk ZtS Ztp), (Zl.mk Zt2 ZtG)]).length) * 144 ≤ 140737488355328) >>= fun _ =>
 Zp 0 Zax ZD (Zje ++ ([(Zl.mk ZtS Ztp), (Zl.mk Zt2 ZtG)]))
 else
 Zp 22 Zax ZD Zje
 else
 some (0, Zu.mk ZD Zax, Zbo)
 partial_fixpoint
def Zp (e_7 : Int) (Zax : (List (ByteArray × Int))) (ZD : (List Ze)) (Zbo : (List Zl)) : Option (Int × Zu × (List Zl)) :=
 if (e_7 != 0) = true then
 some (e_7, Zu.mk ([] : List Ze) ([] : List (ByteArray × Int)), Zbo)
 else
 ZB Zax ZD Zbo
 partial_fixpoint
end
def ZB.M (Zax : (List (ByteArray × Int))) (ZD : (List Ze)) (Zbo : (List Zl)) (r : Int × Zu × (List Zl)) : Prop :=
 AWL Tryz.prog 124 (Code.sub (Zq Tryz.f32) [1, 0, 0, 0]) (Code.cont Tryz.prog 124 (Zq Tryz.f32) [1, 0, 0] (ZbW tab Tryz.f32.results (ZbY (.c none (.v (.int .i64 r.1))) [(1000, [(none, .rs 7001 r.2.1.flist.length), (none, .rf 1002)]), (1002, [(none, .ob 109 (r.2.1.fat.map (Zec c_S Zcv)))]), (7001, [(none, .ob 90 (r.2.1.flist.map Ze.cells))]), (7003, [(none, .ob 76 (r.2.2.map Zl.cells))])]))) ⟨[(0, .ptr 1000 0), (1, .c none (.rs 7003 Zbo.length))], [(1000, [(none, .rs 7001 ZD.length), (none, .rf 1002)]), (1002, [(none, .ob 109 (Zax.map (Zec c_S Zcv)))]), (7001, [(none, .ob 90 (ZD.map Ze.cells))]), (7003, [(none, .ob 76 (Zbo.map Zl.cells))])]⟩
def Zp.M (e_7 : Int) (Zax : (List (ByteArray × Int))) (ZD : (List Ze)) (Zbo : (List Zl)) (r : Int × Zu × (List Zl)) : Prop :=
 AWP Tryz.prog 124 (Code.sub (Zq Tryz.f32) [1, 0, 0, 0, 1, 0, 1, 1, 1, 1]) (Code.cont Tryz.prog 124 (Zq Tryz.f32) [1, 0, 0, 0, 1, 0, 1, 1, 1, 1] (ZbW tab Tryz.f32.results (ZbY (.c none (.v (.int .i64 r.1))) [(1000, [(none, .rs 7001 r.2.1.flist.length), (none, .rf 1002)]), (1002, [(none, .ob 109 (r.2.1.fat.map (Zec c_S Zcv)))]), (7001, [(none, .ob 90 (r.2.1.flist.map Ze.cells))]), (7003, [(none, .ob 76 (r.2.2.map Zl.cells))])]))) ⟨[(0, .ptr 1000 0), (1, .c none (.rs 7003 Zbo.length)), (7, .c none (.v (.int .i64 e_7)))], [(1000, [(none, .rs 7001 ZD.length), (none, .rf 1002)]), (1002, [(none, .ob 109 (Zax.map (Zec c_S Zcv)))]), (7001, [(none, .ob 90 (ZD.map Ze.cells))]), (7003, [(none, .ob 76 (Zbo.map Zl.cells))])]⟩
theorem Zgj : (∀ (Zax : (List (ByteArray × Int))) (ZD : (List Ze)) (Zbo : (List Zl)), ∀ r, ZB Zax ZD Zbo = some r → ZB.M Zax ZD Zbo r) ∧ (∀ (e_7 : Int) (Zax : (List (ByteArray × Int))) (ZD : (List Ze)) (Zbo : (List Zl)), ∀ r, Zp e_7 Zax ZD Zbo = some r → Zp.M e_7 Zax ZD Zbo r) := by
 refine ZB.mutual_partial_correctness ZB.M Zp.M ?_ ?_
 ·intro unify_solver_solve_k2' Zcw Zax ZD Zbo r hF
  unfold ZB.M
  refine AWL.step ?_
  refine AWP.seq ?_
  refine AWP.seq ?_
  refine ns ?_
  intro hlen93
  (try rw [List.length_map] at hlen93)
  (try rw [List.length_map])
  refine st ?_
  refine nw ?_
  refine Zi hF (fun ZHe hF => ?_) (fun ZHe hF => ?_)
  ·refine nw ?_
   refine AWP.block ?_
   refine AWP.seq ?_
   obtain ⟨x95, ZEv, ZFF, hF⟩ := ZcL hF
   obtain ⟨r96, ZGT, hF⟩ := bind_some hF
   obtain ⟨x97, ZF5, ZF7, hF⟩ := ZcL hF
   obtain ⟨r98, ZH9, hF⟩ := bind_some hF
   refine nn ?_
   refine Or.inl (Exists.intro 20 (Exists.intro [[], [], [], [], [], [], [], [], [1000, 7001, 1002], [], [], [], [], [], [], [], [], [1000, 7001, 1002], [5], [6]] (Exists.intro [([11, 12, 13, 14, 15, 16, 17, 18, 19, 20, 21, 22, 23, 24, 25, 26, 27, 28, 5, 6], [5, 6], []), ([11, 12, 13, 14, 15, 16, 17, 18, 19, 20, 21, 22, 23, 24, 25, 26, 27, 28, 5, 6], [5, 6], []), ([11, 12, 13, 14, 15, 16, 17, 18, 19, 20, 21, 22, 23, 24, 25, 26, 27, 28, 5, 6], [5, 6], []), ([11, 12, 14, 15, 16, 17, 18, 19, 20, 21, 22, 23, 24, 25, 26, 27, 28, 5, 6], [5, 6], []), ([11, 12, 15, 16, 17, 18, 19, 20, 21, 22, 23, 24, 25, 26, 27, 28, 5, 6], [5, 6], []), ([11, 16, 17, 18, 19, 20, 21, 22, 23, 24, 25, 26, 27, 28, 5, 6], [5, 6], []), ([11, 17, 18, 19, 20, 21, 22, 23, 24, 25, 26, 27, 28, 5, 6], [5, 6], []), ([11, 18, 19, 20, 21, 22, 23, 24, 25, 26, 27, 28, 5, 6], [5, 6], []), ([19, 20, 21, 22, 23, 24, 25, 26, 27, 28, 5, 6], [5, 6], [1000, 7001, 1002]), ([11, 12, 13, 14, 15, 16, 17, 18, 19, 20, 21, 22, 23, 24, 25, 26, 27, 28, 5, 6], [1000, 7001, 1002, 5, 6], []), ([11, 12, 13, 14, 15, 16, 17, 18, 19, 20, 21, 22, 23, 24, 25, 26, 27, 28, 5, 6], [1000, 7001, 1002, 5, 6], []), ([11, 12, 13, 14, 15, 16, 17, 18, 19, 20, 21, 22, 23, 24, 25, 26, 27, 28, 5, 6], [1000, 7001, 1002, 5, 6], []), ([11, 12, 13, 14, 15, 16, 17, 18, 19, 20, 21, 23, 24, 25, 26, 27, 28, 5, 6], [1000, 7001, 1002, 5, 6], []), ([11, 12, 13, 14, 15, 16, 17, 18, 19, 20, 21, 24, 25, 26, 27, 28, 5, 6], [1000, 7001, 1002, 5, 6], []), ([11, 12, 13, 14, 15, 16, 17, 18, 19, 20, 25, 26, 27, 28, 5, 6], [1000, 7001, 1002, 5, 6], []), ([11, 12, 13, 14, 15, 16, 17, 18, 19, 20, 26, 27, 28, 5, 6], [1000, 7001, 1002, 5, 6], []), ([11, 12, 13, 14, 15, 16, 17, 18, 19, 20, 27, 28, 5, 6], [1000, 7001, 1002, 5, 6], []), ([28, 5, 6], [5, 6], [1000, 7001, 1002]), ([11, 12, 13, 14, 15, 16, 17, 18, 19, 20, 21, 22, 23, 24, 25, 26, 27, 28, 5, 6], [1000, 7001, 1002, 1000, 7001, 1002, 6], [5]), ([11, 12, 13, 14, 15, 16, 17, 18, 19, 20, 21, 22, 23, 24, 25, 26, 27, 28, 5, 6], [1000, 7001, 1002, 1000, 7001, 1002, 5], [6])] (Exists.intro [11, 12, 13, 14, 15, 16, 17, 18, 19, 20, 21, 22, 23, 24, 25, 26, 27, 28, 5, 6] (And.intro (by decide +kernel) ?_)))))
   refine dp ?_
   refine dp ?_
   refine dp ?_
   refine dl ?_
   refine dp ?_
   refine da (ZpK ZEv ZFF) ?_
   refine dp ?_
   refine dr (ZbX (Zl.cells_eq x95) ZFF) ?_
   (refine st ?_; apply Exists.intro; apply Exists.intro; apply And.intro; (focus ((conv => whnf); refine Exists.intro [(1000, 1000), (7001, 1001), (1002, 1002)] ?_; (conv => whnf); refine And.intro rfl ?_; (conv => whnf); refine Zj.mono (Zj.weak (rn []) (ZgQ (Zu.mk ZD Zax) x95.e0 _ ZGT) rfl (WS.mk (tp (Zd (Zt (lc (lc (lc (lc Zo))))) Zb)) (Zf rfl (Ze2 (Zaf (by first | exact rfl | simp only [List.length_set])) (cc Zh)) (Zf rfl (cc Zh) (Zf rfl (cc Zh) Zc))))) ?_; rintro d b ⟨rfl, rfl⟩; exact And.intro rfl (And.intro rfl rfl))); apply And.intro; (focus exact rfl); (conv => whnf))
   refine dp ?_
   refine dp ?_
   refine dp ?_
   refine dl ?_
   refine dp ?_
   refine da (ZpK ZF5 ZF7) ?_
   refine dp ?_
   refine dr (ZbX (Zl.cells_eq x97) ZF7) ?_
   (refine st ?_; apply Exists.intro; apply Exists.intro; apply And.intro; (focus ((conv => whnf); refine Exists.intro [(1000, 1000), (7001, 1001), (1002, 1002)] ?_; (conv => whnf); refine And.intro rfl ?_; (conv => whnf); refine Zj.mono (Zj.weak (rn []) (ZgQ (Zu.mk ZD Zax) x97.e1 _ ZH9) rfl (WS.mk (tp (Zd (Zt (lc (lc (lc (lc Zo))))) Zb)) (Zf rfl (Ze2 (Zaf (by first | exact rfl | simp only [List.length_set])) (cc Zh)) (Zf rfl (cc Zh) (Zf rfl (cc Zh) Zc))))) ?_; rintro d b ⟨rfl, rfl⟩; exact And.intro rfl (And.intro rfl rfl))); apply And.intro; (focus exact rfl); (conv => whnf))
   refine dp ?_
   refine dp ?_
   refine st ?_
   refine AWP.seq ?_
   obtain ⟨Zje, ZCc, ZCb, ZAL, ZBU, hF⟩ := ZuR hF
   refine ns ?_
   intro hlen99
   (try rw [List.length_map] at hlen99)
   (try rw [List.length_map])
   refine s3 ZCc ZCb ZAL ?_
   refine Exists.intro (Zje.map Zl.cells) (Exists.intro Zje.length (And.intro (ZBW ZBU) (And.intro (ZyG ZAL ZBU) ?_)))
   refine st ?_
   refine AWP.seq ?_
   refine ns ?_
   refine AWP.seq ?_
   refine AWP.block ?_
   refine AWP.seq ?_
   refine AWP.cutN (fun T => ∃ r, WS r T ⟨[(0, .ptr 1000 0), (1, .c none (.rs 7003 Zje.length)), (5, .ptr 5 0), (6, .ptr 6 0), (7, .c none (.v (.int .i64 0))), (34, .c none (.v (.bool (((r96.fOp == 1) && (r98.fOp == 1)) && (r96.fName.toList == r98.fName.toList)))))], [(5, [(none, .v (.int .i64 r96.fOp)), (none, .v (.string r96.fName)), (none, .sl (r96.fBound.fArgs.map Zk.cells)), (none, .sl (r96.fKids.map Za.cells))]), (6, [(none, .v (.int .i64 r98.fOp)), (none, .v (.string r98.fName)), (none, .sl (r98.fBound.fArgs.map Zk.cells)), (none, .sl (r98.fKids.map Za.cells))]), (1000, [(none, .rs 7001 ZD.length), (none, .rf 1002)]), (1002, [(none, .ob 109 (Zax.map (Zec c_S Zcv)))]), (7001, [(none, .ob 90 (ZD.map Ze.cells))]), (7003, [(none, .ob 76 (Zje.map Zl.cells))])]⟩) ?_ (fun T hw => ?_)
   ·refine ns ?_
    refine Zm true (fun Zso => ?_) (fun Zso => ?_)
    ·(conv => whnf)
     refine st ?_
     refine Zm true (fun ZAb => ?_) (fun ZAb => ?_)
     ·(conv => whnf)
      refine st ?_
      exact wx (WS.mk (tp (Zd (Zr (Zaf (by first | exact rfl | simp only [List.length_set]))) (tp (tp (tc (Zd (Zr (web (And.intro Zso ZAb))) Zb)))))) (Zf rfl (cc (cc (cc (cc Zh)))) (Zf rfl (cc (cc (cc (cc Zh)))) (Zf rfl (Ze2 (Zaf (by first | exact rfl | simp only [List.length_set])) (cc Zh)) (Zf rfl (cc Zh) (Zf rfl (cc Zh) (Zf rfl (cc Zh) Zc)))))))
     ·(conv => whnf)
      refine st ?_
      exact wx (WS.mk (tp (Zd (Zr (Zaf (by first | exact rfl | simp only [List.length_set]))) (tp (tp (tc (Zd (Zr (web (And.intro Zso ZAb))) Zb)))))) (Zf rfl (cc (cc (cc (cc Zh)))) (Zf rfl (cc (cc (cc (cc Zh)))) (Zf rfl (Ze2 (Zaf (by first | exact rfl | simp only [List.length_set])) (cc Zh)) (Zf rfl (cc Zh) (Zf rfl (cc Zh) (Zf rfl (cc Zh) Zc)))))))
    ·(conv => whnf)
     refine st ?_
     exact wx (WS.mk (tp (Zd (Zr (Zaf (by first | exact rfl | simp only [List.length_set]))) (tp (tp (tc (Zd (Zr (web Zso)) Zb)))))) (Zf rfl (cc (cc (cc (cc Zh)))) (Zf rfl (cc (cc (cc (cc Zh)))) (Zf rfl (Ze2 (Zaf (by first | exact rfl | simp only [List.length_set])) (cc Zh)) (Zf rfl (cc Zh) (Zf rfl (cc Zh) (Zf rfl (cc Zh) Zc)))))))
   obtain ⟨r0, hw⟩ := hw
   (conv => whnf)
   refine AWP.weak r0 hw ?_
   refine nw ?_
   refine Zi hF (fun ZFc hF => ?_) (fun ZFc hF => ?_)
   ·refine nw ?_
    refine AWP.weak (rn []) ?_ (Zcw 0 Zax ZD Zje _ hF)
    exact (WS.mk (tp (Zd (Zr (Zaf (by first | exact rfl | simp only [List.length_set]))) (tc Zb))) (Zf rfl (Ze2 (Zaf (by first | exact rfl | simp only [List.length_set])) (cc Zh)) (Zf rfl (cc Zh) (Zf rfl (cc Zh) (Zf rfl (cc Zh) Zc)))))
   ·refine AWP.seq ?_
    refine ns ?_
    refine nw ?_
    refine Zi hF (fun ZAl hF => ?_) (fun ZAl hF => ?_)
    ·obtain ⟨ZvG, ZEU, hF⟩ := bind_some hF
     refine ns ?_
     refine Exists.intro [] (Exists.intro [(1000, 1000), (7001, 7001), (1002, 1002)] (Exists.intro [] ?_))
     refine st ?_
     refine cm (Zj.weak (rn []) (Ziw (Zu.mk ZD Zax) r96.fName r98 _ ZEU) rfl (WS.mk (tp (tc (Zd (Zt (lc (lc (lc (lc Zo))))) Zb))) (Zf rfl (Ze2 (Zaf (by first | exact rfl | simp only [List.length_set])) (cc Zh)) (Zf rfl (cc Zh) (Zf rfl (cc Zh) Zc))))) ?_
     refine st ?_
     refine AWP.weak (rn []) ?_ (Zcw ZvG.1 ZvG.2.fat ZvG.2.flist Zje _ hF)
     exact (WS.mk (tp (Zd (Zr (Zaf (by first | exact rfl | simp only [List.length_set]))) (tc Zb))) (Zf rfl (Ze2 (Zaf (by first | exact rfl | simp only [List.length_set])) (cc Zh)) (Zf rfl (cc Zh) (Zf rfl (cc Zh) (Zf rfl (cc Zh) Zc)))))
    ·refine AWP.seq ?_
     refine ns ?_
     refine nw ?_
     refine Zi hF (fun ZFP hF => ?_) (fun ZFP hF => ?_)
     ·obtain ⟨Zwq, ZFx, hF⟩ := bind_some hF
      refine ns ?_
      refine Exists.intro [] (Exists.intro [(1000, 1000), (7001, 7001), (1002, 1002)] (Exists.intro [] ?_))
      refine st ?_
      refine cm (Zj.weak (rn []) (Ziw (Zu.mk ZD Zax) r98.fName r96 _ ZFx) rfl (WS.mk (tp (tc (Zd (Zt (lc (lc (lc (lc Zo))))) Zb))) (Zf rfl (Ze2 (Zaf (by first | exact rfl | simp only [List.length_set])) (cc Zh)) (Zf rfl (cc Zh) (Zf rfl (cc Zh) Zc))))) ?_
      refine st ?_
      refine AWP.weak (rn []) ?_ (Zcw Zwq.1 Zwq.2.fat Zwq.2.flist Zje _ hF)
      exact (WS.mk (tp (Zd (Zr (Zaf (by first | exact rfl | simp only [List.length_set]))) (tc Zb))) (Zf rfl (Ze2 (Zaf (by first | exact rfl | simp only [List.length_set])) (cc Zh)) (Zf rfl (cc Zh) (Zf rfl (cc Zh) (Zf rfl (cc Zh) Zc)))))
     ·refine AWP.seq ?_
      refine AWP.cutN (fun T => ∃ r, WS r T ⟨[(0, .ptr 1000 0), (1, .c none (.rs 7003 Zje.length)), (5, .ptr 5 0), (6, .ptr 6 0), (7, .c none (.v (.int .i64 0))), (68, .c none (.v (.bool (((r96.fOp == 2) && (r98.fOp == 2)) && (r96.fName.toList == r98.fName.toList)))))], [(5, [(none, .v (.int .i64 r96.fOp)), (none, .v (.string r96.fName)), (none, .sl (r96.fBound.fArgs.map Zk.cells)), (none, .sl (r96.fKids.map Za.cells))]), (6, [(none, .v (.int .i64 r98.fOp)), (none, .v (.string r98.fName)), (none, .sl (r98.fBound.fArgs.map Zk.cells)), (none, .sl (r98.fKids.map Za.cells))]), (1000, [(none, .rs 7001 ZD.length), (none, .rf 1002)]), (1002, [(none, .ob 109 (Zax.map (Zec c_S Zcv)))]), (7001, [(none, .ob 90 (ZD.map Ze.cells))]), (7003, [(none, .ob 76 (Zje.map Zl.cells))])]⟩) ?_ (fun T hw => ?_)
      ·refine ns ?_
       refine Zm true (fun ZwL => ?_) (fun ZwL => ?_)
       ·(conv => whnf)
        refine st ?_
        refine Zm true (fun ZyO => ?_) (fun ZyO => ?_)
        ·(conv => whnf)
         refine st ?_
         exact wx (WS.mk (tp (Zd (Zr (Zaf (by first | exact rfl | simp only [List.length_set]))) (tp (tp (tc (Zd (Zr (web (And.intro ZwL ZyO))) Zb)))))) (Zf rfl (cc (cc (cc (cc Zh)))) (Zf rfl (cc (cc (cc (cc Zh)))) (Zf rfl (Ze2 (Zaf (by first | exact rfl | simp only [List.length_set])) (cc Zh)) (Zf rfl (cc Zh) (Zf rfl (cc Zh) (Zf rfl (cc Zh) Zc)))))))
        ·(conv => whnf)
         refine st ?_
         exact wx (WS.mk (tp (Zd (Zr (Zaf (by first | exact rfl | simp only [List.length_set]))) (tp (tp (tc (Zd (Zr (web (And.intro ZwL ZyO))) Zb)))))) (Zf rfl (cc (cc (cc (cc Zh)))) (Zf rfl (cc (cc (cc (cc Zh)))) (Zf rfl (Ze2 (Zaf (by first | exact rfl | simp only [List.length_set])) (cc Zh)) (Zf rfl (cc Zh) (Zf rfl (cc Zh) (Zf rfl (cc Zh) Zc)))))))
       ·(conv => whnf)
        refine st ?_
        exact wx (WS.mk (tp (Zd (Zr (Zaf (by first | exact rfl | simp only [List.length_set]))) (tp (tp (tc (Zd (Zr (web ZwL)) Zb)))))) (Zf rfl (cc (cc (cc (cc Zh)))) (Zf rfl (cc (cc (cc (cc Zh)))) (Zf rfl (Ze2 (Zaf (by first | exact rfl | simp only [List.length_set])) (cc Zh)) (Zf rfl (cc Zh) (Zf rfl (cc Zh) (Zf rfl (cc Zh) Zc)))))))
      obtain ⟨r0, hw⟩ := hw
      (conv => whnf)
      refine AWP.weak r0 hw ?_
      refine nw ?_
      refine Zi hF (fun ZGj hF => ?_) (fun ZGj hF => ?_)
      ·refine nw ?_
       refine AWP.weak (rn []) ?_ (Zcw 0 Zax ZD Zje _ hF)
       exact (WS.mk (tp (Zd (Zr (Zaf (by first | exact rfl | simp only [List.length_set]))) (tc Zb))) (Zf rfl (Ze2 (Zaf (by first | exact rfl | simp only [List.length_set])) (cc Zh)) (Zf rfl (cc Zh) (Zf rfl (cc Zh) (Zf rfl (cc Zh) Zc)))))
      ·refine AWP.seq ?_
       refine AWP.cutN (fun T => ∃ r, WS r T ⟨[(0, .ptr 1000 0), (1, .c none (.rs 7003 Zje.length)), (5, .ptr 5 0), (6, .ptr 6 0), (7, .c none (.v (.int .i64 0))), (84, .c none (.v (.bool ((r96.fOp == 3) && (r98.fOp == 3)))))], [(5, [(none, .v (.int .i64 r96.fOp)), (none, .v (.string r96.fName)), (none, .sl (r96.fBound.fArgs.map Zk.cells)), (none, .sl (r96.fKids.map Za.cells))]), (6, [(none, .v (.int .i64 r98.fOp)), (none, .v (.string r98.fName)), (none, .sl (r98.fBound.fArgs.map Zk.cells)), (none, .sl (r98.fKids.map Za.cells))]), (1000, [(none, .rs 7001 ZD.length), (none, .rf 1002)]), (1002, [(none, .ob 109 (Zax.map (Zec c_S Zcv)))]), (7001, [(none, .ob 90 (ZD.map Ze.cells))]), (7003, [(none, .ob 76 (Zje.map Zl.cells))])]⟩) ?_ (fun T hw => ?_)
       ·refine ns ?_
        refine Zm true (fun Zy9 => ?_) (fun Zy9 => ?_)
        ·(conv => whnf)
         refine st ?_
         exact wx (WS.mk (tp (Zd (Zr (Zaf (by first | exact rfl | simp only [List.length_set]))) (tp (tp (tc (Zd (Zr (web Zy9)) Zb)))))) (Zf rfl (cc (cc (cc (cc Zh)))) (Zf rfl (cc (cc (cc (cc Zh)))) (Zf rfl (Ze2 (Zaf (by first | exact rfl | simp only [List.length_set])) (cc Zh)) (Zf rfl (cc Zh) (Zf rfl (cc Zh) (Zf rfl (cc Zh) Zc)))))))
        ·(conv => whnf)
         refine st ?_
         exact wx (WS.mk (tp (Zd (Zr (Zaf (by first | exact rfl | simp only [List.length_set]))) (tp (tp (tc (Zd (Zr (web Zy9)) Zb)))))) (Zf rfl (cc (cc (cc (cc Zh)))) (Zf rfl (cc (cc (cc (cc Zh)))) (Zf rfl (Ze2 (Zaf (by first | exact rfl | simp only [List.length_set])) (cc Zh)) (Zf rfl (cc Zh) (Zf rfl (cc Zh) (Zf rfl (cc Zh) Zc)))))))
       obtain ⟨r0, hw⟩ := hw
       (conv => whnf)
       refine AWP.weak r0 hw ?_
       refine nw ?_
       refine Zi hF (fun ZEJ hF => ?_) (fun ZEJ hF => ?_)
       ·obtain ⟨ZtS, hx1360, ZGn, hF⟩ := ZcL hF
        obtain ⟨Ztp, hx1370, ZFM, hF⟩ := ZcL hF
        obtain ⟨Zt2, hx1380, ZGc, hF⟩ := ZcL hF
        obtain ⟨ZtG, hx1390, ZGw, hF⟩ := ZcL hF
        obtain ⟨ZFu, hF⟩ := Zy hF
        refine nn ?_
        refine Or.inl (Exists.intro 20 (Exists.intro [[], [], [], [], [], [], [], [], [], [], [], [], [], [], [], [], [], [], [], []] (Exists.intro [([93, 94, 95, 96, 97, 98, 99, 100, 101, 102, 103, 104, 105, 106, 107, 108, 109, 110, 111, 112], [], []), ([93, 94, 95, 96, 97, 98, 99, 100, 101, 102, 103, 104, 105, 106, 107, 108, 109, 110, 111, 112], [], []), ([93, 95, 96, 97, 98, 99, 100, 101, 102, 103, 104, 105, 106, 107, 108, 109, 110, 111, 112], [], []), ([93, 96, 97, 98, 99, 100, 101, 102, 103, 104, 105, 106, 107, 108, 109, 110, 111, 112], [], []), ([93, 97, 98, 99, 100, 101, 102, 103, 104, 105, 106, 107, 108, 109, 110, 111, 112], [], []), ([93, 94, 95, 96, 97, 98, 99, 100, 101, 102, 103, 104, 105, 106, 107, 108, 109, 110, 111, 112], [], []), ([93, 94, 95, 96, 97, 99, 100, 101, 102, 103, 104, 105, 106, 107, 108, 109, 110, 111, 112], [], []), ([93, 94, 95, 96, 97, 100, 101, 102, 103, 104, 105, 106, 107, 108, 109, 110, 111, 112], [], []), ([93, 94, 95, 96, 97, 101, 102, 103, 104, 105, 106, 107, 108, 109, 110, 111, 112], [], []), ([93, 102, 103, 104, 105, 106, 107, 108, 109, 110, 111, 112], [], []), ([93, 94, 95, 96, 97, 98, 99, 100, 101, 102, 103, 104, 105, 106, 107, 108, 109, 110, 111, 112], [], []), ([93, 94, 95, 96, 97, 98, 99, 100, 101, 102, 104, 105, 106, 107, 108, 109, 110, 111, 112], [], []), ([93, 94, 95, 96, 97, 98, 99, 100, 101, 102, 105, 106, 107, 108, 109, 110, 111, 112], [], []), ([93, 94, 95, 96, 97, 98, 99, 100, 101, 102, 106, 107, 108, 109, 110, 111, 112], [], []), ([93, 94, 95, 96, 97, 98, 99, 100, 101, 102, 103, 104, 105, 106, 107, 108, 109, 110, 111, 112], [], []), ([93, 94, 95, 96, 97, 98, 99, 100, 101, 102, 103, 104, 105, 106, 108, 109, 110, 111, 112], [], []), ([93, 94, 95, 96, 97, 98, 99, 100, 101, 102, 103, 104, 105, 106, 109, 110, 111, 112], [], []), ([93, 94, 95, 96, 97, 98, 99, 100, 101, 102, 103, 104, 105, 106, 110, 111, 112], [], []), ([93, 94, 95, 96, 97, 98, 99, 100, 101, 102, 111, 112], [], []), ([93, 112], [], [])] (Exists.intro [93, 94, 95, 96, 97, 98, 99, 100, 101, 102, 103, 104, 105, 106, 107, 108, 109, 110, 111, 112] (And.intro (by decide +kernel) ?_)))))
        refine dp ?_
        refine dp ?_
        refine dp ?_
        refine dr (ZbX (Za.cells_eq ZtS) ZGn) ?_
        refine dp ?_
        refine dp ?_
        refine dp ?_
        refine dr (ZbX (Za.cells_eq Ztp) ZFM) ?_
        refine dp ?_
        refine dp ?_
        refine dp ?_
        refine dp ?_
        refine dr (ZbX (Za.cells_eq Zt2) ZGc) ?_
        refine dp ?_
        refine dp ?_
        refine dp ?_
        refine dr (ZbX (Za.cells_eq ZtG) ZGw) ?_
        refine dp ?_
        refine dp ?_
        refine de (Zbt (f := Zl.cells) (ZdA (Zl.cells_eq (Zl.mk ZtS Ztp)) (lc (lc (lc (lc (lc (lc (lc (lc Zo))))))))) (Zbt (f := Zl.cells) (ZdA (Zl.cells_eq (Zl.mk Zt2 ZtG)) (lc (lc (lc (lc (lc (lc (lc (lc Zo))))))))) (ZY (f := Zl.cells)))) ?_
        refine sa (fun l => ZbU l (fun x => Zl.cells_len x)) ZFu ?_
        refine Exists.intro (([(Zl.mk ZtS Ztp), (Zl.mk Zt2 ZtG)]).map Zl.cells) (Exists.intro ((Zje ++ ([(Zl.mk ZtS Ztp), (Zl.mk Zt2 ZtG)])).map Zl.cells) (Exists.intro (Zje ++ ([(Zl.mk ZtS Ztp), (Zl.mk Zt2 ZtG)])).length (And.intro (WE.refl _) (And.intro (Zry (by first | exact rfl | simp only [List.length_set])) (And.intro (ZrI (by first | exact rfl | simp only [List.length_set]) (by first | exact List.length_map _ | exact rfl)) ?_)))))
        refine st ?_
        refine AWP.weak (rn []) ?_ (Zcw 0 Zax ZD (Zje ++ ([(Zl.mk ZtS Ztp), (Zl.mk Zt2 ZtG)])) _ hF)
        exact (WS.mk (tp (Zd (Zr (Zaf (by first | exact rfl | simp only [List.length_set]))) (tc Zb))) (Zf rfl (Ze2 (Zaf (by first | exact rfl | simp only [List.length_set])) (cc Zh)) (Zf rfl (cc Zh) (Zf rfl (cc Zh) (Zf rfl (cc Zh) Zc)))))
       ·refine ns ?_
        refine AWP.weak (rn []) ?_ (Zcw 22 Zax ZD Zje _ hF)
        exact (WS.mk (tp (Zd (Zr (Zaf (by first | exact rfl | simp only [List.length_set]))) (tc Zb))) (Zf rfl (Ze2 (Zaf (by first | exact rfl | simp only [List.length_set])) (cc Zh)) (Zf rfl (cc Zh) (Zf rfl (cc Zh) (Zf rfl (cc Zh) Zc)))))
  ·refine nw ?_
   refine AWP.seq ?_
   refine ns ?_
   obtain rfl := Zg hF
   refine ns ?_
   refine Exists.intro [(1000, 1000), (7001, 7001), (1002, 1002), (7003, 7003)] ?_
   refine st ?_
   exact wx (WS.mk (tc Zb) (Zf rfl (Ze2 (Zaf (by first | exact rfl | simp only [List.length_set])) (cc Zh)) (Zf rfl (cc Zh) (Zf rfl (cc Zh) (Zf rfl (cc Zh) Zc)))))
 ·intro unify_solver_solve_l1' Zkm e_7 Zax ZD Zbo r hF
  unfold Zp.M
  refine AWP.seq ?_
  refine ns ?_
  refine nw ?_
  refine Zi hF (fun ZFC hF => ?_) (fun ZFC hF => ?_)
  ·refine AWP.seq ?_
   refine ns ?_
   refine AWP.seq ?_
   refine ns ?_
   refine AWP.thawB 1000 0 7001 45 rfl rfl ?_
   refine AWP.force ?_
   (conv => whnf)
   refine AWP.seq ?_
   refine ns ?_
   obtain rfl := Zg hF
   refine ns ?_
   refine Exists.intro [(1000, 1000), (7001, 7001), (1002, 1002), (7003, 7003)] ?_
   refine st ?_
   exact wx (WS.mk (tc Zb) (Zf rfl (Ze2 (Zaf (by first | exact rfl | simp only [List.length_set])) (cc Zh)) (Zf rfl (cc Zh) (Zf rfl (cc Zh) (Zf rfl (cc Zh) Zc)))))
  ·refine nw ?_
   refine AWL.weak (rn []) ?_ (Zkm Zax ZD Zbo _ hF)
   exact (WS.mk (tp (Zd (Zr (Zaf (by first | exact rfl | simp only [List.length_set]))) Zb)) (Zf rfl (Ze2 (Zaf (by first | exact rfl | simp only [List.length_set])) (cc Zh)) (Zf rfl (cc Zh) (Zf rfl (cc Zh) (Zf rfl (cc Zh) Zc)))))
theorem Zks : ∀ (Zax : (List (ByteArray × Int))) (ZD : (List Ze)) (Zbo : (List Zl)), ∀ r, ZB Zax ZD Zbo = some r → ZB.M Zax ZD Zbo r := Zgj.1
theorem unify_solver_solve_k2_ok : ∀ (e_7 : Int) (Zax : (List (ByteArray × Int))) (ZD : (List Ze)) (Zbo : (List Zl)), ∀ r, Zp e_7 Zax ZD Zbo = some r → Zp.M e_7 Zax ZD Zbo r := Zgj.2

def ZcR (s : Zu) (todo : (List Zl)) : Option (Int × Zu × (List Zl)) :=
 ZB s.fat s.flist todo
def ZcR.M (s : Zu) (todo : (List Zl)) (r : Int × Zu × (List Zl)) : Prop :=
 Zj Tryz.prog 32 [.ptr 1000 0, .c none (.rs 7003 todo.length)] [(1000, [(none, .rs 7001 s.flist.length), (none, .rf 1002)]), (1002, [(none, .ob 109 (s.fat.map (Zec c_S Zcv)))]), (7001, [(none, .ob 90 (s.flist.map Ze.cells))]), (7003, [(none, .ob 76 (todo.map Zl.cells))])] (fun d b => d = .c none (.v (.int .i64 r.1)) ∧ b = [(1000, [(none, .rs 7001 r.2.1.flist.length), (none, .rf 1002)]), (1002, [(none, .ob 109 (r.2.1.fat.map (Zec c_S Zcv)))]), (7001, [(none, .ob 90 (r.2.1.flist.map Ze.cells))]), (7003, [(none, .ob 76 (r.2.2.map Zl.cells))])])
theorem Zmg (s : Zu) (todo : (List Zl)) (r : Int × Zu × (List Zl)) (hF : ZcR s todo = some r) : ZcR.M s todo r := by
 unfold ZcR at hF
 unfold ZcR.M
 refine en Tryz.func32 ?_
 refine AWP.seq ?_
 refine ns ?_
 refine AWP.seq ?_
 refine AWP.block ?_
 refine AWP.loop ?_
 refine AWL.weak (rn []) ?_ (Zks s.fat s.flist todo _ hF)
 exact (WS.mk (tp (Zd (Zr (Zaf (by first | exact rfl | simp only [List.length_set]))) Zb)) (Zf rfl (Ze2 (Zaf (by first | exact rfl | simp only [List.length_set])) (cc Zh)) (Zf rfl (cc Zh) (Zf rfl (cc Zh) (Zf rfl (cc Zh) Zc)))))

def Zs (s_6 : (List Ze)) (e_7 : Int) (ZG : (List Zl)) : Option ((List Ze) × Int) :=
 if ((decide (((ZG.length : Nat) : Int) > 0)) && (e_7 == 0)) = true then
 (ixI ZG (IntKind.i64.wrap (((ZG.length : Nat) : Int) - 1))) >>= fun ZBa =>
 Zbd s_6 ZBa.e0 >>= fun Zhn =>
 (ixI ZG (IntKind.i64.wrap (((ZG.length : Nat) : Int) - 1))) >>= fun ZBj =>
 Zbd s_6 ZBj.e1 >>= fun Zhm =>
 (slL ZG ((0 : Nat) : Int) (IntKind.i64.wrap (((ZG.length : Nat) : Int) - 1))) >>= fun Zja =>
 if (((Zhn.fOp == 1) && (Zhm.fOp == 1)) && (Zhn.fName.toList == Zhm.fName.toList)) = true then
 Zs s_6 e_7 Zja
 else
 if (Zhn.fOp == 1) = true then
 Za6 s_6 Zhn.fName Zhm >>= fun Zzs =>
 Zs Zzs.1 Zzs.2 Zja
 else
 if (Zhm.fOp == 1) = true then
 Za6 s_6 Zhm.fName Zhn >>= fun ZzU =>
 Zs ZzU.1 ZzU.2 Zja
 else
 if (((Zhn.fOp == 2) && (Zhm.fOp == 2)) && (Zhn.fName.toList == Zhm.fName.toList)) = true then
 Zs s_6 e_7 Zja
 else
 if ((Zhn.fOp == 3) && (Zhm.fOp == 3)) = true then
 (ixI Zhn.fKids 1) >>= fun Zs8 =>
 (ixI Zhm.fKids 1) >>= fun Ztn =>
 (ixI Zhn.fKids 0) >>= fun Zte =>
 (ixI Zhm.fKids 0) >>= fun Zt8 =>
 Z5 ((Zja.length + ([(Zl.mk Zs8 Ztn), (Zl.mk Zte Zt8)]).length) * 144 ≤ 140737488355328) >>= fun _ =>
 Zs s_6 e_7 (Zja ++ ([(Zl.mk Zs8 Ztn), (Zl.mk Zte Zt8)]))
 else
 Zs s_6 22 Zja
 else
 if (e_7 != 0) = true then
 some (([] : List Ze), e_7)
 else
 some (s_6, 0)
 partial_fixpoint
def Zs.M (s_6 : (List Ze)) (e_7 : Int) (ZG : (List Zl)) (r : (List Ze) × Int) : Prop :=
 AWL Tryz.prog 162 (Code.sub (Zq Tryz.f16) [1, 1, 1, 1, 1, 0, 0, 0]) (Code.cont Tryz.prog 162 (Zq Tryz.f16) [1, 1, 1, 1, 1, 0, 0] (ZbW tab Tryz.f16.results (ZbY (.tup [.c (.sl (r.1.map Ze.cells)), .c (.v (.int .i64 r.2))]) []))) ⟨[(4, .c none (.rs 6004 ZG.length)), (6, .c none (.sl (s_6.map Ze.cells))), (7, .c none (.v (.int .i64 e_7)))], [(6004, [(none, .ob 76 (ZG.map Zl.cells))])]⟩
theorem ZmS (s_6 : (List Ze)) (e_7 : Int) (ZG : (List Zl)) : ∀ r, Zs s_6 e_7 ZG = some r → Zs.M s_6 e_7 ZG r := by
 refine Zs.partial_correctness (fun s_6 e_7 ZG r => Zs.M s_6 e_7 ZG r) ?_ s_6 e_7 ZG
 intro lazycref18_All_l2' Zh0 s_6 e_7 ZG r hF
 have Zdv := fun (s_6 : (List Ze)) (e_7 : Int) (ZG : (List Zl)) => Zh0 s_6 e_7 ZG
 clear Zh0
 unfold Zs.M
 refine AWL.step ?_
 refine AWP.seq ?_
 refine AWP.seq ?_
 refine AWP.cutN (fun T => ∃ r, WS r T ⟨[(4, .c none (.rs 6004 ZG.length)), (6, .c none (.sl (s_6.map Ze.cells))), (7, .c none (.v (.int .i64 e_7))), (48, .c none (.v (.bool ((decide (((ZG.length : Nat) : Int) > 0)) && (e_7 == 0)))))], [(6004, [(none, .ob 76 (ZG.map Zl.cells))])]⟩) ?_ (fun T hw => ?_)
 ·refine ns ?_
  intro hlen237
  (try rw [List.length_map] at hlen237)
  (try rw [List.length_map])
  refine st ?_
  refine Zm true (fun ZzI => ?_) (fun ZzI => ?_)
  ·(conv => whnf)
   refine st ?_
   exact wx (WS.mk (Zd (Zr (Zaf (by first | exact rfl | simp only [List.length_set]))) (tc (tc (Zd (Zr (web ZzI)) Zb)))) (Zf rfl (cc Zh) Zc))
  ·(conv => whnf)
   refine st ?_
   exact wx (WS.mk (Zd (Zr (Zaf (by first | exact rfl | simp only [List.length_set]))) (tc (tc (Zd (Zr (web ZzI)) Zb)))) (Zf rfl (cc Zh) Zc))
 obtain ⟨r0, hw⟩ := hw
 (conv => whnf)
 refine AWP.weak r0 hw ?_
 refine nw ?_
 refine Zi hF (fun ZEx hF => ?_) (fun ZEx hF => ?_)
 ·refine nw ?_
  refine AWP.block ?_
  refine AWP.seq ?_
  obtain ⟨ZBa, ZDg, ZB6, hF⟩ := ZcL hF
  obtain ⟨Zhn, ZEz, hF⟩ := bind_some hF
  obtain ⟨ZBj, ZCg, ZB2, hF⟩ := ZcL hF
  obtain ⟨Zhm, ZFB, hF⟩ := bind_some hF
  refine nn ?_
  refine Or.inl (Exists.intro 20 (Exists.intro [[], [], [], [], [], [], [], [], [], [], [], [], [], [], [], [], [], [], [8], [9]] (Exists.intro [([49, 50, 51, 52, 53, 54, 55, 56, 57, 58, 59, 60, 61, 62, 63, 64, 65, 66, 8, 9], [8, 9], []), ([49, 50, 51, 52, 53, 54, 55, 56, 57, 58, 59, 60, 61, 62, 63, 64, 65, 66, 8, 9], [8, 9], []), ([49, 50, 51, 52, 53, 54, 55, 56, 57, 58, 59, 60, 61, 62, 63, 64, 65, 66, 8, 9], [8, 9], []), ([49, 50, 52, 53, 54, 55, 56, 57, 58, 59, 60, 61, 62, 63, 64, 65, 66, 8, 9], [8, 9], []), ([49, 50, 53, 54, 55, 56, 57, 58, 59, 60, 61, 62, 63, 64, 65, 66, 8, 9], [8, 9], []), ([49, 54, 55, 56, 57, 58, 59, 60, 61, 62, 63, 64, 65, 66, 8, 9], [8, 9], []), ([49, 55, 56, 57, 58, 59, 60, 61, 62, 63, 64, 65, 66, 8, 9], [8, 9], []), ([49, 56, 57, 58, 59, 60, 61, 62, 63, 64, 65, 66, 8, 9], [8, 9], []), ([57, 58, 59, 60, 61, 62, 63, 64, 65, 66, 8, 9], [8, 9], []), ([49, 50, 51, 52, 53, 54, 55, 56, 57, 58, 59, 60, 61, 62, 63, 64, 65, 66, 8, 9], [8, 9], []), ([49, 50, 51, 52, 53, 54, 55, 56, 57, 58, 59, 60, 61, 62, 63, 64, 65, 66, 8, 9], [8, 9], []), ([49, 50, 51, 52, 53, 54, 55, 56, 57, 58, 59, 60, 61, 62, 63, 64, 65, 66, 8, 9], [8, 9], []), ([49, 50, 51, 52, 53, 54, 55, 56, 57, 58, 59, 61, 62, 63, 64, 65, 66, 8, 9], [8, 9], []), ([49, 50, 51, 52, 53, 54, 55, 56, 57, 58, 59, 62, 63, 64, 65, 66, 8, 9], [8, 9], []), ([49, 50, 51, 52, 53, 54, 55, 56, 57, 58, 63, 64, 65, 66, 8, 9], [8, 9], []), ([49, 50, 51, 52, 53, 54, 55, 56, 57, 58, 64, 65, 66, 8, 9], [8, 9], []), ([49, 50, 51, 52, 53, 54, 55, 56, 57, 58, 65, 66, 8, 9], [8, 9], []), ([66, 8, 9], [8, 9], []), ([49, 50, 51, 52, 53, 54, 55, 56, 57, 58, 59, 60, 61, 62, 63, 64, 65, 66, 8, 9], [9], [8]), ([49, 50, 51, 52, 53, 54, 55, 56, 57, 58, 59, 60, 61, 62, 63, 64, 65, 66, 8, 9], [8], [9])] (Exists.intro [49, 50, 51, 52, 53, 54, 55, 56, 57, 58, 59, 60, 61, 62, 63, 64, 65, 66, 8, 9] (And.intro (by decide +kernel) ?_)))))
  refine dp ?_
  refine dp ?_
  refine dp ?_
  refine dl ?_
  refine dp ?_
  refine da (ZpK ZDg ZB6) ?_
  refine dp ?_
  refine dr (ZbX (Zl.cells_eq ZBa) ZB6) ?_
  (refine st ?_; apply Exists.intro; apply Exists.intro; apply And.intro; (focus ((conv => whnf); refine Exists.intro [] ?_; (conv => whnf); refine And.intro rfl ?_; (conv => whnf); refine Zj.mono (Zj.weak (rn []) (ZhP s_6 ZBa.e0 _ ZEz) rfl (WS.mk (tc (Zd (Zt (lc (lc (lc (lc Zo))))) Zb)) Zc)) ?_; rintro d b ⟨rfl, rfl⟩; exact And.intro rfl (And.intro rfl rfl))); apply And.intro; (focus exact rfl); (conv => whnf))
  refine dp ?_
  refine dp ?_
  refine dp ?_
  refine dl ?_
  refine dp ?_
  refine da (ZpK ZCg ZB2) ?_
  refine dp ?_
  refine dr (ZbX (Zl.cells_eq ZBj) ZB2) ?_
  (refine st ?_; apply Exists.intro; apply Exists.intro; apply And.intro; (focus ((conv => whnf); refine Exists.intro [] ?_; (conv => whnf); refine And.intro rfl ?_; (conv => whnf); refine Zj.mono (Zj.weak (rn []) (ZhP s_6 ZBj.e1 _ ZFB) rfl (WS.mk (tc (Zd (Zt (lc (lc (lc (lc Zo))))) Zb)) Zc)) ?_; rintro d b ⟨rfl, rfl⟩; exact And.intro rfl (And.intro rfl rfl))); apply And.intro; (focus exact rfl); (conv => whnf))
  refine dp ?_
  refine dp ?_
  refine st ?_
  refine AWP.seq ?_
  obtain ⟨Zja, ZDI, ZEp, ZyY, ZB0, hF⟩ := ZuR hF
  refine ns ?_
  intro hlen244
  (try rw [List.length_map] at hlen244)
  (try rw [List.length_map])
  refine s3 ZDI ZEp ZyY ?_
  refine Exists.intro (Zja.map Zl.cells) (Exists.intro Zja.length (And.intro (ZBW ZB0) (And.intro (ZyG ZyY ZB0) ?_)))
  refine st ?_
  refine AWP.block ?_
  refine AWP.seq ?_
  refine AWP.cutN (fun T => ∃ r, WS r T ⟨[(4, .c none (.rs 6004 Zja.length)), (6, .c none (.sl (s_6.map Ze.cells))), (7, .c none (.v (.int .i64 e_7))), (8, .ptr 8 0), (9, .ptr 9 0), (72, .c none (.v (.bool (((Zhn.fOp == 1) && (Zhm.fOp == 1)) && (Zhn.fName.toList == Zhm.fName.toList)))))], [(8, [(none, .v (.int .i64 Zhn.fOp)), (none, .v (.string Zhn.fName)), (none, .sl (Zhn.fBound.fArgs.map Zk.cells)), (none, .sl (Zhn.fKids.map Za.cells))]), (9, [(none, .v (.int .i64 Zhm.fOp)), (none, .v (.string Zhm.fName)), (none, .sl (Zhm.fBound.fArgs.map Zk.cells)), (none, .sl (Zhm.fKids.map Za.cells))]), (6004, [(none, .ob 76 (Zja.map Zl.cells))])]⟩) ?_ (fun T hw => ?_)
  ·refine ns ?_
   refine Zm true (fun Zwz => ?_) (fun Zwz => ?_)
   ·(conv => whnf)
    refine st ?_
    refine Zm true (fun Zzu => ?_) (fun Zzu => ?_)
    ·(conv => whnf)
     refine st ?_
     exact wx (WS.mk (Zd (Zr (Zaf (by first | exact rfl | simp only [List.length_set]))) (tc (tc (tp (tp (Zd (Zr (web (And.intro Zwz Zzu))) Zb)))))) (Zf rfl (cc (cc (cc (cc Zh)))) (Zf rfl (cc (cc (cc (cc Zh)))) (Zf rfl (cc Zh) Zc))))
    ·(conv => whnf)
     refine st ?_
     exact wx (WS.mk (Zd (Zr (Zaf (by first | exact rfl | simp only [List.length_set]))) (tc (tc (tp (tp (Zd (Zr (web (And.intro Zwz Zzu))) Zb)))))) (Zf rfl (cc (cc (cc (cc Zh)))) (Zf rfl (cc (cc (cc (cc Zh)))) (Zf rfl (cc Zh) Zc))))
   ·(conv => whnf)
    refine st ?_
    exact wx (WS.mk (Zd (Zr (Zaf (by first | exact rfl | simp only [List.length_set]))) (tc (tc (tp (tp (Zd (Zr (web Zwz)) Zb)))))) (Zf rfl (cc (cc (cc (cc Zh)))) (Zf rfl (cc (cc (cc (cc Zh)))) (Zf rfl (cc Zh) Zc))))
  obtain ⟨r0, hw⟩ := hw
  (conv => whnf)
  refine AWP.weak r0 hw ?_
  refine nw ?_
  refine Zi hF (fun ZGK hF => ?_) (fun ZGK hF => ?_)
  ·refine nw ?_
   refine AWL.weak (rn []) ?_ (Zdv s_6 e_7 Zja _ hF)
   exact (WS.mk (Zd (Zr (Zaf (by first | exact rfl | simp only [List.length_set]))) (tc (tc Zb))) (Zf rfl (cc Zh) Zc))
  ·refine AWP.seq ?_
   refine ns ?_
   refine nw ?_
   refine Zi hF (fun ZEX hF => ?_) (fun ZEX hF => ?_)
   ·obtain ⟨Zzs, ZFY, hF⟩ := bind_some hF
    refine ns ?_
    refine e3 ?_
    refine st ?_
    refine cm (Zj.weak (rn []) (Zjr s_6 Zhn.fName Zhm _ ZFY) rfl (WS.mk (tc (tc (Zd (Zt (lc (lc (lc (lc Zo))))) Zb))) Zc)) ?_
    refine st ?_
    refine AWL.weak (rn []) ?_ (Zdv Zzs.1 Zzs.2 Zja _ hF)
    exact (WS.mk (Zd (Zr (Zaf (by first | exact rfl | simp only [List.length_set]))) (tc (tc Zb))) (Zf rfl (cc Zh) Zc))
   ·refine AWP.seq ?_
    refine ns ?_
    refine nw ?_
    refine Zi hF (fun ZFG hF => ?_) (fun ZFG hF => ?_)
    ·obtain ⟨ZzU, ZEW, hF⟩ := bind_some hF
     refine ns ?_
     refine e3 ?_
     refine st ?_
     refine cm (Zj.weak (rn []) (Zjr s_6 Zhm.fName Zhn _ ZEW) rfl (WS.mk (tc (tc (Zd (Zt (lc (lc (lc (lc Zo))))) Zb))) Zc)) ?_
     refine st ?_
     refine AWL.weak (rn []) ?_ (Zdv ZzU.1 ZzU.2 Zja _ hF)
     exact (WS.mk (Zd (Zr (Zaf (by first | exact rfl | simp only [List.length_set]))) (tc (tc Zb))) (Zf rfl (cc Zh) Zc))
    ·refine AWP.seq ?_
     refine AWP.cutN (fun T => ∃ r, WS r T ⟨[(4, .c none (.rs 6004 Zja.length)), (6, .c none (.sl (s_6.map Ze.cells))), (7, .c none (.v (.int .i64 e_7))), (8, .ptr 8 0), (9, .ptr 9 0), (112, .c none (.v (.bool (((Zhn.fOp == 2) && (Zhm.fOp == 2)) && (Zhn.fName.toList == Zhm.fName.toList)))))], [(8, [(none, .v (.int .i64 Zhn.fOp)), (none, .v (.string Zhn.fName)), (none, .sl (Zhn.fBound.fArgs.map Zk.cells)), (none, .sl (Zhn.fKids.map Za.cells))]), (9, [(none, .v (.int .i64 Zhm.fOp)), (none, .v (.string Zhm.fName)), (none, .sl (Zhm.fBound.fArgs.map Zk.cells)), (none, .sl (Zhm.fKids.map Za.cells))]), (6004, [(none, .ob 76 (Zja.map Zl.cells))])]⟩) ?_ (fun T hw => ?_)
     ·refine ns ?_
      refine Zm true (fun Zxx => ?_) (fun Zxx => ?_)
      ·(conv => whnf)
       refine st ?_
       refine Zm true (fun ZAW => ?_) (fun ZAW => ?_)
       ·(conv => whnf)
        refine st ?_
        exact wx (WS.mk (Zd (Zr (Zaf (by first | exact rfl | simp only [List.length_set]))) (tc (tc (tp (tp (Zd (Zr (web (And.intro Zxx ZAW))) Zb)))))) (Zf rfl (cc (cc (cc (cc Zh)))) (Zf rfl (cc (cc (cc (cc Zh)))) (Zf rfl (cc Zh) Zc))))
       ·(conv => whnf)
        refine st ?_
        exact wx (WS.mk (Zd (Zr (Zaf (by first | exact rfl | simp only [List.length_set]))) (tc (tc (tp (tp (Zd (Zr (web (And.intro Zxx ZAW))) Zb)))))) (Zf rfl (cc (cc (cc (cc Zh)))) (Zf rfl (cc (cc (cc (cc Zh)))) (Zf rfl (cc Zh) Zc))))
      ·(conv => whnf)
       refine st ?_
       exact wx (WS.mk (Zd (Zr (Zaf (by first | exact rfl | simp only [List.length_set]))) (tc (tc (tp (tp (Zd (Zr (web Zxx)) Zb)))))) (Zf rfl (cc (cc (cc (cc Zh)))) (Zf rfl (cc (cc (cc (cc Zh)))) (Zf rfl (cc Zh) Zc))))
     obtain ⟨r0, hw⟩ := hw
     (conv => whnf)
     refine AWP.weak r0 hw ?_
     refine nw ?_
     refine Zi hF (fun ZFV hF => ?_) (fun ZFV hF => ?_)
     ·refine nw ?_
      refine AWL.weak (rn []) ?_ (Zdv s_6 e_7 Zja _ hF)
      exact (WS.mk (Zd (Zr (Zaf (by first | exact rfl | simp only [List.length_set]))) (tc (tc Zb))) (Zf rfl (cc Zh) Zc))
     ·refine AWP.seq ?_
      refine AWP.cutN (fun T => ∃ r, WS r T ⟨[(4, .c none (.rs 6004 Zja.length)), (6, .c none (.sl (s_6.map Ze.cells))), (7, .c none (.v (.int .i64 e_7))), (8, .ptr 8 0), (9, .ptr 9 0), (128, .c none (.v (.bool ((Zhn.fOp == 3) && (Zhm.fOp == 3)))))], [(8, [(none, .v (.int .i64 Zhn.fOp)), (none, .v (.string Zhn.fName)), (none, .sl (Zhn.fBound.fArgs.map Zk.cells)), (none, .sl (Zhn.fKids.map Za.cells))]), (9, [(none, .v (.int .i64 Zhm.fOp)), (none, .v (.string Zhm.fName)), (none, .sl (Zhm.fBound.fArgs.map Zk.cells)), (none, .sl (Zhm.fKids.map Za.cells))]), (6004, [(none, .ob 76 (Zja.map Zl.cells))])]⟩) ?_ (fun T hw => ?_)
      ·refine ns ?_
       refine Zm true (fun Zy6 => ?_) (fun Zy6 => ?_)
       ·(conv => whnf)
        refine st ?_
        exact wx (WS.mk (Zd (Zr (Zaf (by first | exact rfl | simp only [List.length_set]))) (tc (tc (tp (tp (Zd (Zr (web Zy6)) Zb)))))) (Zf rfl (cc (cc (cc (cc Zh)))) (Zf rfl (cc (cc (cc (cc Zh)))) (Zf rfl (cc Zh) Zc))))
       ·(conv => whnf)
        refine st ?_
        exact wx (WS.mk (Zd (Zr (Zaf (by first | exact rfl | simp only [List.length_set]))) (tc (tc (tp (tp (Zd (Zr (web Zy6)) Zb)))))) (Zf rfl (cc (cc (cc (cc Zh)))) (Zf rfl (cc (cc (cc (cc Zh)))) (Zf rfl (cc Zh) Zc))))
      obtain ⟨r0, hw⟩ := hw
      (conv => whnf)
      refine AWP.weak r0 hw ?_
      refine nw ?_
      refine Zi hF (fun ZFn hF => ?_) (fun ZFn hF => ?_)
      ·obtain ⟨Zs8, hx2630, ZGt, hF⟩ := ZcL hF
       obtain ⟨Ztn, hx2640, ZEK, hF⟩ := ZcL hF
       obtain ⟨Zte, hx2650, ZEw, hF⟩ := ZcL hF
       obtain ⟨Zt8, hx2660, ZFZ, hF⟩ := ZcL hF
       obtain ⟨ZGl, hF⟩ := Zy hF
       refine nn ?_
       refine Or.inl (Exists.intro 20 (Exists.intro [[], [], [], [], [], [], [], [], [], [], [], [], [], [], [], [], [], [], [], []] (Exists.intro [([137, 138, 139, 140, 141, 142, 143, 144, 145, 146, 147, 148, 149, 150, 151, 152, 153, 154, 155, 156], [], []), ([137, 138, 139, 140, 141, 142, 143, 144, 145, 146, 147, 148, 149, 150, 151, 152, 153, 154, 155, 156], [], []), ([137, 139, 140, 141, 142, 143, 144, 145, 146, 147, 148, 149, 150, 151, 152, 153, 154, 155, 156], [], []), ([137, 140, 141, 142, 143, 144, 145, 146, 147, 148, 149, 150, 151, 152, 153, 154, 155, 156], [], []), ([137, 141, 142, 143, 144, 145, 146, 147, 148, 149, 150, 151, 152, 153, 154, 155, 156], [], []), ([137, 138, 139, 140, 141, 142, 143, 144, 145, 146, 147, 148, 149, 150, 151, 152, 153, 154, 155, 156], [], []), ([137, 138, 139, 140, 141, 143, 144, 145, 146, 147, 148, 149, 150, 151, 152, 153, 154, 155, 156], [], []), ([137, 138, 139, 140, 141, 144, 145, 146, 147, 148, 149, 150, 151, 152, 153, 154, 155, 156], [], []), ([137, 138, 139, 140, 141, 145, 146, 147, 148, 149, 150, 151, 152, 153, 154, 155, 156], [], []), ([137, 146, 147, 148, 149, 150, 151, 152, 153, 154, 155, 156], [], []), ([137, 138, 139, 140, 141, 142, 143, 144, 145, 146, 147, 148, 149, 150, 151, 152, 153, 154, 155, 156], [], []), ([137, 138, 139, 140, 141, 142, 143, 144, 145, 146, 148, 149, 150, 151, 152, 153, 154, 155, 156], [], []), ([137, 138, 139, 140, 141, 142, 143, 144, 145, 146, 149, 150, 151, 152, 153, 154, 155, 156], [], []), ([137, 138, 139, 140, 141, 142, 143, 144, 145, 146, 150, 151, 152, 153, 154, 155, 156], [], []), ([137, 138, 139, 140, 141, 142, 143, 144, 145, 146, 147, 148, 149, 150, 151, 152, 153, 154, 155, 156], [], []), ([137, 138, 139, 140, 141, 142, 143, 144, 145, 146, 147, 148, 149, 150, 152, 153, 154, 155, 156], [], []), ([137, 138, 139, 140, 141, 142, 143, 144, 145, 146, 147, 148, 149, 150, 153, 154, 155, 156], [], []), ([137, 138, 139, 140, 141, 142, 143, 144, 145, 146, 147, 148, 149, 150, 154, 155, 156], [], []), ([137, 138, 139, 140, 141, 142, 143, 144, 145, 146, 155, 156], [], []), ([137, 156], [], [])] (Exists.intro [137, 138, 139, 140, 141, 142, 143, 144, 145, 146, 147, 148, 149, 150, 151, 152, 153, 154, 155, 156] (And.intro (by decide +kernel) ?_)))))
       refine dp ?_
       refine dp ?_
       refine dp ?_
       refine dr (ZbX (Za.cells_eq Zs8) ZGt) ?_
       refine dp ?_
       refine dp ?_
       refine dp ?_
       refine dr (ZbX (Za.cells_eq Ztn) ZEK) ?_
       refine dp ?_
       refine dp ?_
       refine dp ?_
       refine dp ?_
       refine dr (ZbX (Za.cells_eq Zte) ZEw) ?_
       refine dp ?_
       refine dp ?_
       refine dp ?_
       refine dr (ZbX (Za.cells_eq Zt8) ZFZ) ?_
       refine dp ?_
       refine dp ?_
       refine de (Zbt (f := Zl.cells) (ZdA (Zl.cells_eq (Zl.mk Zs8 Ztn)) (lc (lc (lc (lc (lc (lc (lc (lc Zo))))))))) (Zbt (f := Zl.cells) (ZdA (Zl.cells_eq (Zl.mk Zte Zt8)) (lc (lc (lc (lc (lc (lc (lc (lc Zo))))))))) (ZY (f := Zl.cells)))) ?_
       refine sa (fun l => ZbU l (fun x => Zl.cells_len x)) ZGl ?_
       refine Exists.intro (([(Zl.mk Zs8 Ztn), (Zl.mk Zte Zt8)]).map Zl.cells) (Exists.intro ((Zja ++ ([(Zl.mk Zs8 Ztn), (Zl.mk Zte Zt8)])).map Zl.cells) (Exists.intro (Zja ++ ([(Zl.mk Zs8 Ztn), (Zl.mk Zte Zt8)])).length (And.intro (WE.refl _) (And.intro (Zry (by first | exact rfl | simp only [List.length_set])) (And.intro (ZrI (by first | exact rfl | simp only [List.length_set]) (by first | exact List.length_map _ | exact rfl)) ?_)))))
       refine st ?_
       refine AWL.weak (rn []) ?_ (Zdv s_6 e_7 (Zja ++ ([(Zl.mk Zs8 Ztn), (Zl.mk Zte Zt8)])) _ hF)
       exact (WS.mk (Zd (Zr (Zaf (by first | exact rfl | simp only [List.length_set]))) (tc (tc Zb))) (Zf rfl (cc Zh) Zc))
      ·refine ns ?_
       refine AWL.weak (rn []) ?_ (Zdv s_6 22 Zja _ hF)
       exact (WS.mk (Zd (Zr (Zaf (by first | exact rfl | simp only [List.length_set]))) (tc (tc Zb))) (Zf rfl (cc Zh) Zc))
 ·refine nw ?_
  refine AWP.seq ?_
  refine AWP.seq ?_
  refine ns ?_
  refine nw ?_
  refine Zi hF (fun ZFg hF => ?_) (fun ZFg hF => ?_)
  ·refine AWP.seq ?_
   refine ns ?_
   obtain rfl := Zg hF
   refine ns ?_
   refine Exists.intro [] ?_
   refine st ?_
   exact wx (WS.mk (Zd (Zc9 (ZcG WE.nil (ZcG (WE.refl _) Zc7))) Zb) Zc)
  ·refine nw ?_
   refine AWP.seq ?_
   refine ns ?_
   obtain rfl := Zg hF
   refine ns ?_
   refine Exists.intro [] ?_
   refine st ?_
   exact wx (WS.mk (Zd (Zc9 (ZcG (WE.refl _) (ZcG (WE.refl _) Zc7))) Zb) Zc)

def ZbN (pairs : (List Zl)) (i_5 : Int) (ZG : (List Zl)) : Option ((List Ze) × Int) :=
 if (decide (i_5 ≥ 0)) = true then
 (ixI pairs i_5) >>= fun x91 =>
 Zcf x91.e0 >>= fun r92 =>
 (if (!r92) = true then some true else (ixI pairs i_5) >>= fun x93 =>
 Zcf x93.e1 >>= fun r94 =>
 some (!r94)) >>= fun c95 =>
 if c95 = true then
 some (([] : List Ze), 1)
 else
 (ixI pairs i_5) >>= fun x98 =>
 Z5 ((ZG.length + ([x98]).length) * 144 ≤ 140737488355328) >>= fun _ =>
 ZbN pairs (IntKind.i64.wrap (i_5 - 1)) (ZG ++ ([x98]))
 else
 Zs ([] : List Ze) 0 ZG
 partial_fixpoint
def ZbN.M (pairs : (List Zl)) (i_5 : Int) (ZG : (List Zl)) (r : (List Ze) × Int) : Prop :=
 pairs.length ≤ maxLen → AWL Tryz.prog 162 (Code.sub (Zq Tryz.f16) [1, 1, 0, 1, 0, 0]) (Code.cont Tryz.prog 162 (Zq Tryz.f16) [1, 1, 0, 1, 0] (ZbW tab Tryz.f16.results (ZbY (.tup [.c (.sl (r.1.map Ze.cells)), .c (.v (.int .i64 r.2))]) []))) ⟨[(0, .c none (.sl (pairs.map Zl.cells))), (4, .c none (.rs 6004 ZG.length)), (5, .c none (.v (.int .i64 i_5)))], [(6004, [(none, .ob 76 (ZG.map Zl.cells))])]⟩
theorem Zm4 (pairs : (List Zl)) (i_5 : Int) (ZG : (List Zl)) : ∀ r, ZbN pairs i_5 ZG = some r → ZbN.M pairs i_5 ZG r := by
 refine ZbN.partial_correctness pairs (fun i_5 ZG r => ZbN.M pairs i_5 ZG r) ?_ i_5 ZG
 intro lazycref18_All_l1' Zh5 i_5 ZG r hF
 have Zna := fun (_pairs : (List Zl)) (i_5 : Int) (ZG : (List Zl)) => Zh5 i_5 ZG
 clear Zh5
 unfold ZbN.M
 intro hlen50
 refine AWL.step ?_
 refine AWP.seq ?_
 refine AWP.seq ?_
 refine ns ?_
 refine nw ?_
 refine Zi hF (fun ZpQ hF => ?_) (fun ZpQ hF => ?_)
 ·refine nw ?_
  refine AWP.seq ?_
  refine AWP.block ?_
  refine AWP.seq ?_
  refine AWP.seq ?_
  obtain ⟨x91, ZFA, ZDC, hF⟩ := ZcL hF
  obtain ⟨r92, Zwo, hF⟩ := bind_some hF
  obtain ⟨c95, Zku, hF⟩ := bind_some hF
  refine AWP.cutN (fun T => ∃ r, WS r T ⟨[(0, .c none (.sl (pairs.map Zl.cells))), (4, .c none (.rs 6004 ZG.length)), (5, .c none (.v (.int .i64 i_5))), (33, .c none (.v (.bool c95)))], [(6004, [(none, .ob 76 (ZG.map Zl.cells))])]⟩) ?_ (fun T hw => ?_)
  ·refine nn ?_
   refine sr (ZbX (f := Zl.cells) (Zl.cells_eq x91) ZDC) ?_
   refine st ?_
   refine e3 ?_
   refine st ?_
   refine cm (Zj.weak (rn []) (Ziy x91.e0 _ Zwo) rfl (WS.mk (Zd (Zt (lc (lc (lc (lc Zo))))) Zb) Zc)) ?_
   refine st ?_
   refine Zm false (fun ZpI => ?_) (fun ZpI => ?_)
   ·have Zku := ift ZpI Zku
    (conv => whnf)
    obtain rfl := Zg Zku
    refine st ?_
    exact wx (WS.mk (tc (Zd (Zr (Zaf (by first | exact rfl | simp only [List.length_set]))) (tc (Zd (Zr (web ZpI)) Zb)))) (Zf rfl (cc Zh) Zc))
   ·have Zku := ife ZpI Zku
    obtain ⟨x93, ZE5, ZDM, Zku⟩ := ZcL Zku
    obtain ⟨r94, ZEb, Zku⟩ := bind_some Zku
    (conv => whnf)
    refine sr (ZbX (f := Zl.cells) (Zl.cells_eq x93) ZDM) ?_
    refine st ?_
    refine e3 ?_
    refine st ?_
    refine cm (Zj.weak (rn []) (Ziy x93.e1 _ ZEb) rfl (WS.mk (Zd (Zt (lc (lc (lc (lc Zo))))) Zb) Zc)) ?_
    refine st ?_
    obtain rfl := Zg Zku
    refine st ?_
    exact wx (WS.mk (tc (Zd (Zr (Zaf (by first | exact rfl | simp only [List.length_set]))) (tc (Zd (Zr (web ZpI)) Zb)))) (Zf rfl (cc Zh) Zc))
  obtain ⟨r0, hw⟩ := hw
  (conv => whnf)
  refine AWP.weak r0 hw ?_
  refine nw ?_
  refine Zi hF (fun ZC3 hF => ?_) (fun ZC3 hF => ?_)
  ·refine AWP.seq ?_
   refine ns ?_
   obtain rfl := Zg hF
   refine ns ?_
   refine Exists.intro [] ?_
   refine st ?_
   exact wx (WS.mk (Zd (Zc9 (ZcG WE.nil (ZcG (WE.refl _) Zc7))) Zb) Zc)
  ·refine nw ?_
   obtain ⟨x98, ZE2, ZCM, hF⟩ := ZcL hF
   obtain ⟨ZCx, hF⟩ := Zy hF
   refine nn ?_
   refine sr (ZbX (f := Zl.cells) (Zl.cells_eq x98) ZCM) ?_
   refine st ?_
   refine Exists.intro _ (And.intro (Zbt (f := Zl.cells) (ZdA (Zl.cells_eq x98) (lc (lc (lc (lc (lc (lc (lc (lc Zo))))))))) (ZY (f := Zl.cells))) ?_)
   refine sa (fun l => ZbU l (fun x => Zl.cells_len x)) ZCx ?_
   refine Exists.intro (([x98]).map Zl.cells) (Exists.intro ((ZG ++ ([x98])).map Zl.cells) (Exists.intro (ZG ++ ([x98])).length (And.intro (WE.refl _) (And.intro (Zry (by first | exact rfl | simp only [List.length_set])) (And.intro (ZrI (by first | exact rfl | simp only [List.length_set]) (by first | exact List.length_map _ | exact rfl)) ?_)))))
   refine st ?_
   refine ns ?_
   refine AWL.weak (rn []) ?_ (Zna pairs (IntKind.i64.wrap (i_5 - 1)) (ZG ++ ([x98])) _ hF hlen50)
   exact (WS.mk (tc (Zd (Zr (Zaf (by first | exact rfl | simp only [List.length_set]))) (tc Zb))) (Zf rfl (cc Zh) Zc))
 ·refine nw ?_
  refine AWP.seq ?_
  refine ns ?_
  refine Exists.intro _ (And.intro (ZY (f := Ze.cells)) ?_)
  refine st ?_
  refine AWP.seq ?_
  refine ns ?_
  refine AWP.seq ?_
  refine AWP.block ?_
  refine AWP.loop ?_
  refine AWL.weak (rn []) ?_ (ZmS ([] : List Ze) 0 ZG _ hF)
  exact (WS.mk (Zd (Zr (Zaf (by first | exact rfl | simp only [List.length_set]))) (tc (tc Zb))) (Zf rfl (cc Zh) Zc))

def ZcN (pairs : (List Zl)) : Option ((List Ze) × Int) :=
 ZbN pairs (IntKind.i64.wrap (((pairs.length : Nat) : Int) - 1)) ([] : List Zl)
def ZcN.M (pairs : (List Zl)) (r : (List Ze) × Int) : Prop :=
 Zj Tryz.prog 16 [.c none (.sl (pairs.map Zl.cells))] [] (fun d b => d = .tup [.c (.sl (r.1.map Ze.cells)), .c (.v (.int .i64 r.2))] ∧ b = [])
theorem Zkc (pairs : (List Zl)) (r : (List Ze) × Int) (hF : ZcN pairs = some r) : ZcN.M pairs r := by
 unfold ZcN at hF
 unfold ZcN.M
 refine en Tryz.func16 ?_
 refine AWP.seq ?_
 refine ns ?_
 refine AWP.seq ?_
 refine ns ?_
 refine Exists.intro _ (And.intro (ZY (f := Zl.cells)) ?_)
 refine st ?_
 refine AWP.thaw 4 6004 38 rfl ?_
 refine AWP.force ?_
 (conv => whnf)
 refine AWP.seq ?_
 refine AWP.seq ?_
 refine ns ?_
 intro hlen50
 (try rw [List.length_map] at hlen50)
 (try rw [List.length_map])
 refine st ?_
 refine AWP.block ?_
 refine AWP.loop ?_
 refine AWL.weak (rn []) ?_ (Zm4 pairs (IntKind.i64.wrap (((pairs.length : Nat) : Int) - 1)) ([] : List Zl) _ hF hlen50)
 exact (WS.mk (tc (Zd (Zr (Zaf (by first | exact rfl | simp only [List.length_set]))) (tc Zb))) (Zf rfl (cc Zh) Zc))

def ZcQ (ZjA : (List Ze)) (l : (List Ze)) (x_8 : Nat) (Zbz : (List Ze)) : Option ((List Ze)) :=
 (match Zbz with
 | x13 :: Zrp =>
 Zcm x13.fType >>= fun r16 =>
 Z5 ((ZjA.length + ([(Ze.mk x13.fName r16)]).length) * 88 ≤ 140737488355328) >>= fun _ =>
 ZcQ (ZjA ++ ([(Ze.mk x13.fName r16)])) l (x_8 + 1) Zrp
 | [] =>
 some ZjA)
 partial_fixpoint
def ZcQ.M (ZjA : (List Ze)) (l : (List Ze)) (x_8 : Nat) (Zbz : (List Ze)) (r : (List Ze)) : Prop :=
 ∀ Zej : List Ze, l = Zej ++ Zbz → x_8 = Zej.length → l.length ≤ maxLen → AWL Tryz.prog 23 (Code.sub (Zq Tryz.f33) [1, 1, 0, 1, 0, 0]) (Code.cont Tryz.prog 23 (Zq Tryz.f33) [1, 1, 0, 1, 0] (ZbW tab Tryz.f33.results (ZbY (.c (some (0, 45)) (.sl (r.map Ze.cells))) [(1000, [(none, .ob 90 (l.map Ze.cells))])]))) ⟨[(3, .c (some (3, 45)) (.sl (ZjA.map Ze.cells))), (6, .c none (.rs 1000 l.length)), (7, .c none (.v (.int .i64 ((l.length : Nat) : Int)))), (8, .c none (.v (.int .i64 ((x_8 : Nat) : Int))))], [(1000, [(none, .ob 90 (l.map Ze.cells))])]⟩
theorem ZoJ (ZjA : (List Ze)) (l : (List Ze)) (x_8 : Nat) (Zbz : (List Ze)) : ∀ r, ZcQ ZjA l x_8 Zbz = some r → ZcQ.M ZjA l x_8 Zbz r := by
 refine ZcQ.partial_correctness l (fun ZjA x_8 Zbz r => ZcQ.M ZjA l x_8 Zbz r) ?_ ZjA x_8 Zbz
 intro unify_fresh_l1' ZjM ZjA x_8 Zbz r hF
 have ZoF := fun (ZjA : (List Ze)) (_l : (List Ze)) (x_8 : Nat) (Zbz : (List Ze)) => ZjM ZjA x_8 Zbz
 clear ZjM
 unfold ZcQ.M
 intro Zej Zjw ZjT hlen1
 refine AWL.step ?_
 refine AWP.seq ?_
 refine ns ?_
 refine AWP.seq ?_
 refine nw ?_
 refine ZN Zjw ZjT (fun x13 Zrp ZqD Zym ZAK => ?_) (fun ZqD => ?_)
 ·subst ZqD
  refine nw ?_
  refine AWP.seq ?_
  refine AWP.block ?_
  refine AWP.seq ?_
  refine ns ?_
  refine And.intro (Zt5 Zym) ?_
  refine st ?_
  refine sr (Zab (f := Ze.cells) (Ze.cells_eq x13) Zym) ?_
  refine st ?_
  obtain ⟨r16, Zwl, hF⟩ := bind_some hF
  obtain ⟨ZCT, hF⟩ := Zy hF
  refine nn ?_
  refine Or.inl (Exists.intro 8 (Exists.intro [[], [], [], [], [], [], [], []] (Exists.intro [([12, 13, 14, 15, 16, 17, 18, 19], [], []), ([12, 13, 14, 15, 16, 17, 18, 19], [], []), ([12, 14, 15, 16, 17, 18, 19], [], []), ([12, 13, 14, 15, 16, 17, 18, 19], [], []), ([12, 13, 14, 16, 17, 18, 19], [], []), ([12, 13, 14, 17, 18, 19], [], []), ([12, 18, 19], [], []), ([12, 19], [], [])] (Exists.intro [12, 13, 14, 15, 16, 17, 18, 19] (And.intro (by decide +kernel) ?_)))))
  refine dp ?_
  refine dp ?_
  refine dp ?_
  refine dp ?_
  refine dp ?_
  (refine st ?_; apply Exists.intro; apply Exists.intro; apply And.intro; (focus ((conv => whnf); refine Exists.intro [] ?_; (conv => whnf); refine And.intro rfl ?_; (conv => whnf); refine Zj.mono (Zj.weak (rn []) (Zqi x13.fType _ Zwl) rfl (WS.mk (Zd (Zt (lc (lc (lc (lc Zo))))) Zb) Zc)) ?_; rintro d b ⟨rfl, rfl⟩; exact And.intro rfl (And.intro rfl rfl))); apply And.intro; (focus exact rfl); (conv => whnf))
  refine dp ?_
  refine de (Zbt (f := Ze.cells) (ZdA (Ze.cells_eq (Ze.mk x13.fName r16)) (lc (lc (lc (lc (lc Zo)))))) (ZY (f := Ze.cells))) ?_
  refine sa (fun l => ZbU l (fun x => Ze.cells_len x)) ZCT ?_
  refine Exists.intro _ (And.intro (WE.refl _) ?_)
  rw [← List.map_append]
  refine st ?_
  refine ns ?_
  refine AWL.weak (rn [(20, 3)]) ?_ (ZoF (ZjA ++ ([(Ze.mk x13.fName r16)])) l (x_8 + 1) Zrp _ hF (Zej ++ [x13]) (by rw [Zjw]; simp) (by rw [ZjT]; simp) hlen1)
  exact (WS.mk (Zd (Zam rfl (WE.refl _)) (Zd (Zr (Zaf (by first | exact rfl | simp only [List.length_set]))) (tc (Zd (Zr (Zdf (ZV hlen1 ZAK))) Zb)))) (Zf rfl (cc Zh) Zc))
 ·subst ZqD
  refine nw ?_
  refine AWP.seq ?_
  refine ns ?_
  obtain rfl := Zg hF
  refine ns ?_
  refine Exists.intro [(1000, 1000)] ?_
  refine st ?_
  exact Exists.intro (rn [(3, 0)]) (WS.mk (Zd (Zam rfl (WE.refl _)) Zb) (Zf rfl (cc Zh) Zc))

def Zcz (l : (List Ze)) : Option ((List Ze)) :=
 ZcQ ([]) l 0 l
def Zcz.M (l : (List Ze)) (r : (List Ze)) : Prop :=
 Zj Tryz.prog 33 [.c none (.rs 1000 l.length)] [(1000, [(none, .ob 90 (l.map Ze.cells))])] (fun d b => d = .c (some (0, 45)) (.sl (r.map Ze.cells)) ∧ b = [(1000, [(none, .ob 90 (l.map Ze.cells))])])
theorem Zq7 (l : (List Ze)) (r : (List Ze)) (hF : Zcz l = some r) : Zcz.M l r := by
 unfold Zcz at hF
 unfold Zcz.M
 refine en Tryz.func33 ?_
 refine AWP.seq ?_
 refine ns ?_
 refine AWP.seq ?_
 refine ns ?_
 refine AWP.seq ?_
 refine AWP.seq ?_
 refine ns ?_
 intro hlen1
 (try rw [List.length_map] at hlen1)
 (try rw [List.length_map])
 refine st ?_
 refine AWP.block ?_
 refine AWP.loop ?_
 refine AWL.weak (rn []) ?_ (ZoJ ([]) l 0 l _ hF ([]) rfl rfl hlen1)
 exact (WS.mk (Zd ZjI (Zd (Zr (Zaf (by first | exact rfl | simp only [List.length_set]))) (tc (tc Zb)))) (Zf rfl (cc Zh) Zc))

def ZdG (pairs : (List Zl)) (i_5 : Int) (Zbn : (List Zl)) : Option ((List Ze) × Int) :=
 if (decide (i_5 ≥ 0)) = true then
 (ixI pairs i_5) >>= fun x91 =>
 ZdW x91.e0 >>= fun r92 =>
 (if (!r92) = true then some true else (ixI pairs i_5) >>= fun x93 =>
 ZdW x93.e1 >>= fun r94 =>
 some (!r94)) >>= fun c95 =>
 if c95 = true then
 some (([] : List Ze), 1)
 else
 (ixI pairs i_5) >>= fun x98 =>
 Z5 ((Zbn.length + ([x98]).length) * 144 ≤ 140737488355328) >>= fun _ =>
 ZdG pairs (IntKind.i64.wrap (i_5 - 1)) (Zbn ++ ([x98]))
 else
 ZcR (Zu.mk ([] : List Ze) ([] : List (ByteArray × Int))) Zbn >>= fun Zps =>
 Zcz Zps.2.1.flist >>= fun Zvd =>
 some (Zvd, Zps.1)
 partial_fixpoint
def ZdG.M (pairs : (List Zl)) (i_5 : Int) (Zbn : (List Zl)) (r : (List Ze) × Int) : Prop :=
 pairs.length ≤ maxLen → AWL Tryz.prog 50 (Code.sub (Zq Tryz.f15) [1, 1, 0, 1, 0, 0]) (Code.cont Tryz.prog 50 (Zq Tryz.f15) [1, 1, 0, 1, 0] (ZbW tab Tryz.f15.results (ZbY (.tup [.c (.sl (r.1.map Ze.cells)), .c (.v (.int .i64 r.2))]) []))) ⟨[(0, .c none (.sl (pairs.map Zl.cells))), (4, .c none (.rs 6004 Zbn.length)), (5, .c none (.v (.int .i64 i_5)))], [(6004, [(none, .ob 76 (Zbn.map Zl.cells))])]⟩
theorem Zqc (pairs : (List Zl)) (i_5 : Int) (Zbn : (List Zl)) : ∀ r, ZdG pairs i_5 Zbn = some r → ZdG.M pairs i_5 Zbn r := by
 refine ZdG.partial_correctness pairs (fun i_5 Zbn r => ZdG.M pairs i_5 Zbn r) ?_ i_5 Zbn
 intro unify_All_l1' ZkQ i_5 Zbn r hF
 have Zqm := fun (_pairs : (List Zl)) (i_5 : Int) (Zbn : (List Zl)) => ZkQ i_5 Zbn
 clear ZkQ
 unfold ZdG.M
 intro hlen50
 refine AWL.step ?_
 refine AWP.seq ?_
 refine AWP.seq ?_
 refine ns ?_
 refine nw ?_
 refine Zi hF (fun ZpQ hF => ?_) (fun ZpQ hF => ?_)
 ·refine nw ?_
  refine AWP.seq ?_
  refine AWP.block ?_
  refine AWP.seq ?_
  refine AWP.seq ?_
  obtain ⟨x91, ZFA, ZDC, hF⟩ := ZcL hF
  obtain ⟨r92, Zwo, hF⟩ := bind_some hF
  obtain ⟨c95, Zku, hF⟩ := bind_some hF
  refine AWP.cutN (fun T => ∃ r, WS r T ⟨[(0, .c none (.sl (pairs.map Zl.cells))), (4, .c none (.rs 6004 Zbn.length)), (5, .c none (.v (.int .i64 i_5))), (30, .c none (.v (.bool c95)))], [(6004, [(none, .ob 76 (Zbn.map Zl.cells))])]⟩) ?_ (fun T hw => ?_)
  ·refine nn ?_
   refine sr (ZbX (f := Zl.cells) (Zl.cells_eq x91) ZDC) ?_
   refine st ?_
   refine e3 ?_
   refine st ?_
   refine cm (Zj.weak (rn []) (ZlY x91.e0 _ Zwo) rfl (WS.mk (Zd (Zt (lc (lc (lc (lc Zo))))) Zb) Zc)) ?_
   refine st ?_
   refine Zm false (fun ZpI => ?_) (fun ZpI => ?_)
   ·have Zku := ift ZpI Zku
    (conv => whnf)
    obtain rfl := Zg Zku
    refine st ?_
    exact wx (WS.mk (tc (Zd (Zr (Zaf (by first | exact rfl | simp only [List.length_set]))) (tc (Zd (Zr (web ZpI)) Zb)))) (Zf rfl (cc Zh) Zc))
   ·have Zku := ife ZpI Zku
    obtain ⟨x93, ZE5, ZDM, Zku⟩ := ZcL Zku
    obtain ⟨r94, ZEb, Zku⟩ := bind_some Zku
    (conv => whnf)
    refine sr (ZbX (f := Zl.cells) (Zl.cells_eq x93) ZDM) ?_
    refine st ?_
    refine e3 ?_
    refine st ?_
    refine cm (Zj.weak (rn []) (ZlY x93.e1 _ ZEb) rfl (WS.mk (Zd (Zt (lc (lc (lc (lc Zo))))) Zb) Zc)) ?_
    refine st ?_
    obtain rfl := Zg Zku
    refine st ?_
    exact wx (WS.mk (tc (Zd (Zr (Zaf (by first | exact rfl | simp only [List.length_set]))) (tc (Zd (Zr (web ZpI)) Zb)))) (Zf rfl (cc Zh) Zc))
  obtain ⟨r0, hw⟩ := hw
  (conv => whnf)
  refine AWP.weak r0 hw ?_
  refine nw ?_
  refine Zi hF (fun ZC3 hF => ?_) (fun ZC3 hF => ?_)
  ·refine AWP.seq ?_
   refine ns ?_
   obtain rfl := Zg hF
   refine ns ?_
   refine Exists.intro [] ?_
   refine st ?_
   exact wx (WS.mk (Zd (Zc9 (ZcG WE.nil (ZcG (WE.refl _) Zc7))) Zb) Zc)
  ·refine nw ?_
   obtain ⟨x98, ZE2, ZCM, hF⟩ := ZcL hF
   obtain ⟨ZCx, hF⟩ := Zy hF
   refine nn ?_
   refine sr (ZbX (f := Zl.cells) (Zl.cells_eq x98) ZCM) ?_
   refine st ?_
   refine Exists.intro _ (And.intro (Zbt (f := Zl.cells) (ZdA (Zl.cells_eq x98) (lc (lc (lc (lc (lc (lc (lc (lc Zo))))))))) (ZY (f := Zl.cells))) ?_)
   refine sa (fun l => ZbU l (fun x => Zl.cells_len x)) ZCx ?_
   refine Exists.intro (([x98]).map Zl.cells) (Exists.intro ((Zbn ++ ([x98])).map Zl.cells) (Exists.intro (Zbn ++ ([x98])).length (And.intro (WE.refl _) (And.intro (Zry (by first | exact rfl | simp only [List.length_set])) (And.intro (ZrI (by first | exact rfl | simp only [List.length_set]) (by first | exact List.length_map _ | exact rfl)) ?_)))))
   refine st ?_
   refine ns ?_
   refine AWL.weak (rn []) ?_ (Zqm pairs (IntKind.i64.wrap (i_5 - 1)) (Zbn ++ ([x98])) _ hF hlen50)
   exact (WS.mk (tc (Zd (Zr (Zaf (by first | exact rfl | simp only [List.length_set]))) (tc Zb))) (Zf rfl (cc Zh) Zc))
 ·refine nw ?_
  refine AWP.seq ?_
  refine ns ?_
  refine AWP.thawB 40 0 6540 45 rfl rfl ?_
  refine AWP.force ?_
  (conv => whnf)
  refine AWP.seq ?_
  obtain ⟨Zps, ZER, hF⟩ := bind_some hF
  refine ns ?_
  refine Exists.intro [] (Exists.intro [(40, 1000), (6540, 7001), (38, 1002), (6004, 7003)] (Exists.intro [] ?_))
  refine st ?_
  refine cm (Zj.weak (rn []) (Zmg (Zu.mk ([] : List Ze) ([] : List (ByteArray × Int))) Zbn _ ZER) rfl (WS.mk (tp (Zd (Zr (Zaf (by first | exact rfl | simp only [List.length_set]))) Zb)) (Zf rfl (Ze2 (Zaf (by first | exact rfl | simp only [List.length_set])) (cc Zh)) (Zf rfl (cc Zh) (Zf rfl (cc Zh) (Zf rfl (cc Zh) Zc)))))) ?_
  refine st ?_
  refine AWP.seq ?_
  obtain ⟨Zvd, ZE4, hF⟩ := bind_some hF
  refine ns ?_
  refine Exists.intro [] (Exists.intro [(6540, 1000)] (Exists.intro [] ?_))
  refine st ?_
  refine cm (Zj.weak (rn []) (Zq7 Zps.2.1.flist _ ZE4) rfl (WS.mk (Zd (Zr (Zaf (by first | exact rfl | simp only [List.length_set]))) Zb) (Zf rfl (cc Zh) Zc))) ?_
  refine st ?_
  obtain rfl := Zg hF
  refine ns ?_
  refine Exists.intro [] ?_
  refine st ?_
  exact wx (WS.mk (Zd (Zc9 (ZcG (WE.refl _) (ZcG (WE.refl _) Zc7))) Zb) Zc)

def Ze8 (pairs : (List Zl)) : Option ((List Ze) × Int) :=
 ZdG pairs (IntKind.i64.wrap (((pairs.length : Nat) : Int) - 1)) ([] : List Zl)
def Ze8.M (pairs : (List Zl)) (r : (List Ze) × Int) : Prop :=
 Zj Tryz.prog 15 [.c none (.sl (pairs.map Zl.cells))] [] (fun d b => d = .tup [.c (.sl (r.1.map Ze.cells)), .c (.v (.int .i64 r.2))] ∧ b = [])
theorem ZoM (pairs : (List Zl)) (r : (List Ze) × Int) (hF : Ze8 pairs = some r) : Ze8.M pairs r := by
 unfold Ze8 at hF
 unfold Ze8.M
 refine en Tryz.func15 ?_
 refine AWP.seq ?_
 refine ns ?_
 refine AWP.seq ?_
 refine ns ?_
 refine AWP.thaw 4 6004 38 rfl ?_
 refine AWP.force ?_
 (conv => whnf)
 refine AWP.seq ?_
 refine AWP.seq ?_
 refine ns ?_
 intro hlen50
 (try rw [List.length_map] at hlen50)
 (try rw [List.length_map])
 refine st ?_
 refine AWP.block ?_
 refine AWP.loop ?_
 refine AWL.weak (rn []) ?_ (Zqc pairs (IntKind.i64.wrap (((pairs.length : Nat) : Int) - 1)) ([] : List Zl) _ hF hlen50)
 exact (WS.mk (tc (Zd (Zr (Zaf (by first | exact rfl | simp only [List.length_set]))) (tc Zb))) (Zf rfl (cc Zh) Zc))

def ZbI (a : Za) (b : Za) : Option ((List Ze) × Int) :=
 Ze8 ([(Zl.mk a b)]) >>= fun r1 =>
 some (r1.1, r1.2)
def ZbI.M (a : Za) (b : Za) (r : (List Ze) × Int) : Prop :=
 Zj Tryz.prog 12 [.agg [.v (.int .i64 a.fOp), .v (.string a.fName), .sl (a.fBound.fArgs.map Zk.cells), .sl (a.fKids.map Za.cells)], .agg [.v (.int .i64 b.fOp), .v (.string b.fName), .sl (b.fBound.fArgs.map Zk.cells), .sl (b.fKids.map Za.cells)]] [] (fun d b => d = .tup [.c (.sl (r.1.map Ze.cells)), .c (.v (.int .i64 r.2))] ∧ b = [])
theorem ZfZ (a : Za) (b : Za) (r : (List Ze) × Int) (hF : ZbI a b = some r) : ZbI.M a b r := by
 unfold ZbI at hF
 unfold ZbI.M
 refine en Tryz.func12 ?_
 refine AWP.seq ?_
 refine ns ?_
 refine AWP.seq ?_
 obtain ⟨r1, hr1, hF⟩ := bind_some hF
 refine ns ?_
 refine Exists.intro _ (And.intro (Zbt (f := Zl.cells) (ZdA (Zl.cells_eq (Zl.mk a b)) (lc (lc (lc (lc (lc (lc (lc (lc Zo))))))))) (ZY (f := Zl.cells))) ?_)
 refine st ?_
 refine Exists.intro [9] (Exists.intro [] (Exists.intro [] ?_))
 refine st ?_
 refine cm (Zj.weak (rn []) (ZoM ([(Zl.mk a b)]) _ hr1) rfl (WS.mk (tc Zb) Zc)) ?_
 refine st ?_
 obtain rfl := Zg hF
 refine ns ?_
 refine Exists.intro [] ?_
 refine st ?_
 exact wx (WS.mk (Zd (Zc9 (ZcG (WE.refl _) (ZcG (WE.refl _) Zc7))) Zb) Zc)

def ZdR (a : Za) (b : Za) : Option ((List Ze) × Int) :=
 ZcN ([(Zl.mk a b)]) >>= fun r1 =>
 some (r1.1, r1.2)
def ZdR.M (a : Za) (b : Za) (r : (List Ze) × Int) : Prop :=
 Zj Tryz.prog 13 [.agg [.v (.int .i64 a.fOp), .v (.string a.fName), .sl (a.fBound.fArgs.map Zk.cells), .sl (a.fKids.map Za.cells)], .agg [.v (.int .i64 b.fOp), .v (.string b.fName), .sl (b.fBound.fArgs.map Zk.cells), .sl (b.fKids.map Za.cells)]] [] (fun d b => d = .tup [.c (.sl (r.1.map Ze.cells)), .c (.v (.int .i64 r.2))] ∧ b = [])
theorem ZnP (a : Za) (b : Za) (r : (List Ze) × Int) (hF : ZdR a b = some r) : ZdR.M a b r := by
 unfold ZdR at hF
 unfold ZdR.M
 refine en Tryz.func13 ?_
 refine AWP.seq ?_
 refine ns ?_
 refine AWP.seq ?_
 obtain ⟨r1, hr1, hF⟩ := bind_some hF
 refine ns ?_
 refine Exists.intro _ (And.intro (Zbt (f := Zl.cells) (ZdA (Zl.cells_eq (Zl.mk a b)) (lc (lc (lc (lc (lc (lc (lc (lc Zo))))))))) (ZY (f := Zl.cells))) ?_)
 refine st ?_
 refine Exists.intro [9] (Exists.intro [] (Exists.intro [] ?_))
 refine st ?_
 refine cm (Zj.weak (rn []) (Zkc ([(Zl.mk a b)]) _ hr1) rfl (WS.mk (tc Zb) Zc)) ?_
 refine st ?_
 obtain rfl := Zg hF
 refine ns ?_
 refine Exists.intro [] ?_
 refine st ?_
 exact wx (WS.mk (Zd (Zc9 (ZcG (WE.refl _) (ZcG (WE.refl _) Zc7))) Zb) Zc)

mutual
def Zal (a : Zk) (b : Zk) : Option (Bool) :=
 if (((a.fArgs.length : Nat) : Int) != ((b.fArgs.length : Nat) : Int)) = true then
 some false
 else
 ZaB 0 a b a.fArgs
 partial_fixpoint
def ZaB (i_5 : Nat) (a : Zk) (b : Zk) (Zay : (List Zk)) : Option (Bool) :=
 (match Zay with
 | x32 :: ZvH =>
 (b.fArgs[i_5]?) >>= fun x37 =>
 Zal x32 x37 >>= fun r38 =>
 if (!r38) = true then
 some false
 else
 ZaB (i_5 + 1) a b ZvH
 | [] =>
 some true)
 partial_fixpoint
end
def Zal.M (a : Zk) (b : Zk) (r : Bool) : Prop :=
 Zj Tryz.prog 65 [.agg [.sl (a.fArgs.map Zk.cells)], .agg [.sl (b.fArgs.map Zk.cells)]] [] (fun d b => d = .c none (.v (.bool r)) ∧ b = [])
def ZaB.M (i_5 : Nat) (a : Zk) (b : Zk) (Zay : (List Zk)) (r : Bool) : Prop :=
 ∀ Zdx : List Zk, a.fArgs = Zdx ++ Zay → i_5 = Zdx.length → a.fArgs.length ≤ maxLen → b.fArgs.length ≤ maxLen → AWL Tryz.prog 32 (Code.sub (Zq Tryz.f65) [1, 1, 0, 1, 0, 0]) (Code.cont Tryz.prog 32 (Zq Tryz.f65) [1, 1, 0, 1, 0] (ZbW tab Tryz.f65.results (ZbY (.c none (.v (.bool r))) []))) ⟨[(2, .ptr 2 0), (3, .ptr 3 0), (5, .c none (.v (.int .i64 ((i_5 : Nat) : Int))))], [(2, [(none, .sl (a.fArgs.map Zk.cells))]), (3, [(none, .sl (b.fArgs.map Zk.cells))])]⟩
theorem Zhb : (∀ (a : Zk) (b : Zk), ∀ r, Zal a b = some r → Zal.M a b r) ∧ (∀ (i_5 : Nat) (a : Zk) (b : Zk) (Zay : (List Zk)), ∀ r, ZaB i_5 a b Zay = some r → ZaB.M i_5 a b Zay r) := by
 refine Zal.mutual_partial_correctness Zal.M ZaB.M ?_ ?_
 ·intro lazycref04_SameKind_l1' ZeL a b r hF
  unfold Zal.M
  refine en Tryz.func65 ?_
  refine AWP.seq ?_
  refine ns ?_
  refine AWP.seq ?_
  refine AWP.seq ?_
  refine ns ?_
  intro hlen4
  (try rw [List.length_map] at hlen4)
  (try rw [List.length_map])
  refine st ?_
  intro hlen5
  (try rw [List.length_map] at hlen5)
  (try rw [List.length_map])
  refine st ?_
  refine nw ?_
  refine Zi hF (fun hc6 hF => ?_) (fun hc6 hF => ?_)
  ·refine AWP.seq ?_
   refine ns ?_
   obtain rfl := Zg hF
   refine ns ?_
   refine Exists.intro [] ?_
   refine st ?_
   exact wx (WS.mk (tc Zb) Zc)
  ·refine nw ?_
   refine AWP.seq ?_
   refine AWP.seq ?_
   refine ns ?_
   refine AWP.block ?_
   refine AWP.loop ?_
   refine AWL.weak (rn []) ?_ (ZeL 0 a b a.fArgs _ hF ([]) rfl rfl hlen4 hlen5)
   exact (WS.mk (tp (tp (tc Zb))) (Zf rfl (cc Zh) (Zf rfl (cc Zh) Zc)))
 ·intro lazycref04_SameKind' lazycref04_SameKind_l1' Zln ZeL i_5 a b Zay r hF
  unfold ZaB.M
  intro Zdx Zhs ZhA hlen4 hlen5
  refine AWL.step ?_
  refine AWP.seq ?_
  refine AWP.seq ?_
  refine ns ?_
  intro hlen31
  (try rw [List.length_map] at hlen31)
  (try rw [List.length_map])
  refine st ?_
  refine nw ?_
  refine ZN Zhs ZhA (fun x32 ZvH ZvF ZBo ZCf => ?_) (fun ZvF => ?_)
  ·subst ZvF
   refine nw ?_
   refine AWP.seq ?_
   refine AWP.block ?_
   refine AWP.seq ?_
   obtain ⟨x37, ZHv, hF⟩ := bind_some hF
   obtain ⟨r38, ZAm, hF⟩ := bind_some hF
   refine nn ?_
   refine Or.inl (Exists.intro 10 (Exists.intro [[], [], [], [], [], [], [], [], [], []] (Exists.intro [([20, 21, 22, 23, 24, 25, 26, 27, 28, 29], [], []), ([21, 22, 23, 24, 25, 26, 27, 28, 29], [], []), ([20, 21, 22, 23, 24, 25, 26, 27, 28, 29], [], []), ([23, 24, 25, 26, 27, 28, 29], [], []), ([24, 25, 26, 27, 28, 29], [], []), ([20, 21, 22, 23, 24, 25, 26, 27, 28, 29], [], []), ([20, 21, 22, 23, 24, 26, 27, 28, 29], [], []), ([20, 21, 22, 23, 24, 25, 26, 27, 28, 29], [], []), ([20, 21, 22, 23, 24, 28, 29], [], []), ([20, 21, 22, 23, 24, 29], [], [])] (Exists.intro [20, 21, 22, 23, 24, 25, 26, 27, 28, 29] (And.intro (by decide +kernel) ?_)))))
   refine dp ?_
   refine dp ?_
   refine dp ?_
   refine dr (Zab (Zk.cells_eq x32) ZBo) ?_
   refine dp ?_
   refine dp ?_
   refine dp ?_
   refine dp ?_
   refine dr (Zab (Zk.cells_eq x37) ZHv) ?_
   refine dp ?_
   refine st ?_
   refine e3 ?_
   refine st ?_
   refine cm (Zj.weak (rn []) (Zln x32 x37 _ ZAm) rfl (WS.mk (Zd (Zt (lc Zo)) (Zd (Zt (lc Zo)) Zb)) Zc)) ?_
   refine st ?_
   refine nw ?_
   refine Zi hF (fun ZhU hF => ?_) (fun ZhU hF => ?_)
   ·refine AWP.seq ?_
    refine ns ?_
    obtain rfl := Zg hF
    refine ns ?_
    refine Exists.intro [] ?_
    refine st ?_
    exact wx (WS.mk (tc Zb) Zc)
   ·refine nw ?_
    refine ns ?_
    refine AWL.weak (rn []) ?_ (ZeL (i_5 + 1) a b ZvH _ hF (Zdx ++ [x32]) (by rw [Zhs]; simp) (by rw [ZhA]; simp) hlen31 hlen5)
    exact (WS.mk (tp (tp (Zd (Zr (Zdf (ZV hlen31 ZCf))) Zb))) (Zf rfl (cc Zh) (Zf rfl (cc Zh) Zc)))
  ·subst ZvF
   refine nw ?_
   refine AWP.seq ?_
   refine ns ?_
   obtain rfl := Zg hF
   refine ns ?_
   refine Exists.intro [] ?_
   refine st ?_
   exact wx (WS.mk (tc Zb) Zc)
theorem Zlw : ∀ (a : Zk) (b : Zk), ∀ r, Zal a b = some r → Zal.M a b r := Zhb.1
theorem lazycref04_SameKind_l1_ok : ∀ (i_5 : Nat) (a : Zk) (b : Zk) (Zay : (List Zk)), ∀ r, ZaB i_5 a b Zay = some r → ZaB.M i_5 a b Zay r := Zhb.2

def Zcp (l : (List ByteArray)) (s : ByteArray) (i_5 : Int) : Option (Int) :=
 if (decide (i_5 ≥ 0)) = true then
 (ixI l i_5) >>= fun x12 =>
 if (x12.toList == s.toList) = true then
 some i_5
 else
 Zcp l s (IntKind.i64.wrap (i_5 - 1))
 else
 some (-1)
 partial_fixpoint
def Zcp.M (l : (List ByteArray)) (s : ByteArray) (i_5 : Int) (r : Int) : Prop :=
 l.length ≤ maxLen → AWL Tryz.prog 20 (Code.sub (Zq Tryz.f66) [1, 0, 1, 0, 0]) (Code.cont Tryz.prog 20 (Zq Tryz.f66) [1, 0, 1, 0] (ZbW tab Tryz.f66.results (ZbY (.c none (.v (.int .i64 r))) []))) ⟨[(0, .c none (.sl (l.map c_S))), (1, .c none (.v (.string s))), (5, .c none (.v (.int .i64 i_5)))], []⟩
theorem Zl9 (l : (List ByteArray)) (s : ByteArray) (i_5 : Int) : ∀ r, Zcp l s i_5 = some r → Zcp.M l s i_5 r := by
 refine Zcp.partial_correctness l s (fun i_5 r => Zcp.M l s i_5 r) ?_ i_5
 intro lazycref04_last_l1' Zhv i_5 r hF
 have Zmo := fun (_l : (List ByteArray)) (_s : ByteArray) (i_5 : Int) => Zhv i_5
 clear Zhv
 unfold Zcp.M
 intro hlen1
 refine AWL.step ?_
 refine AWP.seq ?_
 refine AWP.seq ?_
 refine ns ?_
 refine nw ?_
 refine Zi hF (fun ZcS hF => ?_) (fun ZcS hF => ?_)
 ·refine nw ?_
  refine AWP.seq ?_
  refine AWP.block ?_
  refine AWP.seq ?_
  obtain ⟨x12, hx120, ZIc, hF⟩ := ZcL hF
  refine nn ?_
  refine sr (ZbX (f := c_S) rfl ZIc) ?_
  refine st ?_
  refine nw ?_
  refine Zi hF (fun ZbE hF => ?_) (fun ZbE hF => ?_)
  ·refine AWP.seq ?_
   refine ns ?_
   obtain rfl := Zg hF
   refine ns ?_
   refine Exists.intro [] ?_
   refine st ?_
   exact wx (WS.mk (tc Zb) Zc)
  ·refine nw ?_
   refine ns ?_
   refine AWL.weak (rn []) ?_ (Zmo l s (IntKind.i64.wrap (i_5 - 1)) _ hF hlen1)
   exact (WS.mk (tc (tc (tc Zb))) Zc)
 ·refine nw ?_
  refine AWP.seq ?_
  refine ns ?_
  obtain rfl := Zg hF
  refine ns ?_
  refine Exists.intro [] ?_
  refine st ?_
  exact wx (WS.mk (tc Zb) Zc)

def Zcs (l : (List ByteArray)) (s : ByteArray) : Option (Int) :=
 Zcp l s (IntKind.i64.wrap (((l.length : Nat) : Int) - 1))
def Zcs.M (l : (List ByteArray)) (s : ByteArray) (r : Int) : Prop :=
 Zj Tryz.prog 66 [.c none (.sl (l.map c_S)), .c none (.v (.string s))] [] (fun d b => d = .c none (.v (.int .i64 r)) ∧ b = [])
theorem Zjv (l : (List ByteArray)) (s : ByteArray) (r : Int) (hF : Zcs l s = some r) : Zcs.M l s r := by
 unfold Zcs at hF
 unfold Zcs.M
 refine en Tryz.func66 ?_
 refine AWP.seq ?_
 refine ns ?_
 refine AWP.seq ?_
 refine AWP.seq ?_
 refine ns ?_
 intro hlen1
 (try rw [List.length_map] at hlen1)
 (try rw [List.length_map])
 refine st ?_
 refine AWP.block ?_
 refine AWP.loop ?_
 refine AWL.weak (rn []) ?_ (Zl9 l s (IntKind.i64.wrap (((l.length : Nat) : Int) - 1)) _ hF hlen1)
 exact (WS.mk (tc (tc (tc Zb))) Zc)

mutual
def ZaS (a : Za) (b : Za) (x : (List ByteArray)) (y : (List ByteArray)) : Option (Bool) :=
 (if ((a.fOp != b.fOp) || (((a.fKids.length : Nat) : Int) != ((b.fKids.length : Nat) : Int))) = true then some true else Zal a.fBound b.fBound >>= fun r8 =>
 some (!r8)) >>= fun c9 =>
 if c9 = true then
 some false
 else
 if (a.fOp == 1) = true then
 Zcs x a.fName >>= fun r60 =>
 Zcs y b.fName >>= fun r61 =>
 some ((r60 == r61) && ((decide (r60 ≥ 0)) || (a.fName.toList == b.fName.toList)))
 else
 if (a.fOp == 4) = true then
 Z5 ((0 + x.length) * 16 ≤ 140737488355328) >>= fun _ =>
 Z5 ((x.length + ([a.fName]).length) * 16 ≤ 140737488355328) >>= fun _ =>
 Z5 ((0 + y.length) * 16 ≤ 140737488355328) >>= fun _ =>
 Z5 ((y.length + ([b.fName]).length) * 16 ≤ 140737488355328) >>= fun _ =>
 ZaI (x ++ ([a.fName])) (y ++ ([b.fName])) a b
 else
 if (!(a.fName.toList == b.fName.toList)) = true then
 some false
 else
 ZaI x y a b
 partial_fixpoint
def ZaI (x_2 : (List ByteArray)) (y_3 : (List ByteArray)) (a : Za) (b : Za) : Option (Bool) :=
 Z6 x_2 y_3 0 a b a.fKids
 partial_fixpoint
def Z6 (x_2 : (List ByteArray)) (y_3 : (List ByteArray)) (Zge : Nat) (a : Za) (b : Za) (ZcI : (List Za)) : Option (Bool) :=
 (match ZcI with
 | x49 :: ZCQ =>
 (b.fKids[Zge]?) >>= fun x54 =>
 ZaS x49 x54 x_2 y_3 >>= fun r55 =>
 if (!r55) = true then
 some false
 else
 Z6 x_2 y_3 (Zge + 1) a b ZCQ
 | [] =>
 some true)
 partial_fixpoint
end
def ZaS.M (a : Za) (b : Za) (x : (List ByteArray)) (y : (List ByteArray)) (r : Bool) : Prop :=
 Zj Tryz.prog 40 [.agg [.v (.int .i64 a.fOp), .v (.string a.fName), .sl (a.fBound.fArgs.map Zk.cells), .sl (a.fKids.map Za.cells)], .agg [.v (.int .i64 b.fOp), .v (.string b.fName), .sl (b.fBound.fArgs.map Zk.cells), .sl (b.fKids.map Za.cells)], .c none (.sl (x.map c_S)), .c none (.sl (y.map c_S))] [] (fun d b => d = .c none (.v (.bool r)) ∧ b = [])
def ZaI.M (x_2 : (List ByteArray)) (y_3 : (List ByteArray)) (a : Za) (b : Za) (r : Bool) : Prop :=
 AWP Tryz.prog 108 (Code.sub (Zq Tryz.f40) [1, 1, 1]) (Code.cont Tryz.prog 108 (Zq Tryz.f40) [1, 1, 1] (ZbW tab Tryz.f40.results (ZbY (.c none (.v (.bool r))) []))) ⟨[(2, .c none (.sl (x_2.map c_S))), (3, .c none (.sl (y_3.map c_S))), (4, .ptr 4 0), (5, .ptr 5 0)], [(4, [(none, .v (.int .i64 a.fOp)), (none, .v (.string a.fName)), (none, .sl (a.fBound.fArgs.map Zk.cells)), (none, .sl (a.fKids.map Za.cells))]), (5, [(none, .v (.int .i64 b.fOp)), (none, .v (.string b.fName)), (none, .sl (b.fBound.fArgs.map Zk.cells)), (none, .sl (b.fKids.map Za.cells))])]⟩
def Z6.M (x_2 : (List ByteArray)) (y_3 : (List ByteArray)) (Zge : Nat) (a : Za) (b : Za) (ZcI : (List Za)) (r : Bool) : Prop :=
 ∀ Zho : List Za, a.fKids = Zho ++ ZcI → Zge = Zho.length → AWL Tryz.prog 108 (Code.sub (Zq Tryz.f40) [1, 1, 1, 0, 1, 0, 0]) (Code.cont Tryz.prog 108 (Zq Tryz.f40) [1, 1, 1, 0, 1, 0] (ZbW tab Tryz.f40.results (ZbY (.c none (.v (.bool r))) []))) ⟨[(2, .c none (.sl (x_2.map c_S))), (3, .c none (.sl (y_3.map c_S))), (4, .ptr 4 0), (5, .ptr 5 0), (13, .c none (.v (.int .i64 ((Zge : Nat) : Int))))], [(4, [(none, .v (.int .i64 a.fOp)), (none, .v (.string a.fName)), (none, .sl (a.fBound.fArgs.map Zk.cells)), (none, .sl (a.fKids.map Za.cells))]), (5, [(none, .v (.int .i64 b.fOp)), (none, .v (.string b.fName)), (none, .sl (b.fBound.fArgs.map Zk.cells)), (none, .sl (b.fKids.map Za.cells))])]⟩
theorem ZfW : (∀ (a : Za) (b : Za) (x : (List ByteArray)) (y : (List ByteArray)), ∀ r, ZaS a b x y = some r → ZaS.M a b x y r) ∧ (∀ (x_2 : (List ByteArray)) (y_3 : (List ByteArray)) (a : Za) (b : Za), ∀ r, ZaI x_2 y_3 a b = some r → ZaI.M x_2 y_3 a b r) ∧ (∀ (x_2 : (List ByteArray)) (y_3 : (List ByteArray)) (Zge : Nat) (a : Za) (b : Za) (ZcI : (List Za)), ∀ r, Z6 x_2 y_3 Zge a b ZcI = some r → Z6.M x_2 y_3 Zge a b ZcI r) := by
 refine ZaS.mutual_partial_correctness ZaS.M ZaI.M Z6.M ?_ ?_ ?_
 ·intro lazycref04_Alike_k1' Zhy a b x y r hF
  unfold ZaS.M
  refine en Tryz.func40 ?_
  refine AWP.seq ?_
  refine ns ?_
  refine AWP.seq ?_
  refine AWP.seq ?_
  obtain ⟨c9, hc9, hF⟩ := bind_some hF
  refine AWP.cutN (fun T => ∃ r, WS r T ⟨[(2, .c none (.sl (x.map c_S))), (3, .c none (.sl (y.map c_S))), (4, .ptr 4 0), (5, .ptr 5 0), (35, .c none (.v (.bool c9)))], [(4, [(none, .v (.int .i64 a.fOp)), (none, .v (.string a.fName)), (none, .sl (a.fBound.fArgs.map Zk.cells)), (none, .sl (a.fKids.map Za.cells))]), (5, [(none, .v (.int .i64 b.fOp)), (none, .v (.string b.fName)), (none, .sl (b.fBound.fArgs.map Zk.cells)), (none, .sl (b.fKids.map Za.cells))])]⟩) ?_ (fun T hw => ?_)
  ·refine ns ?_
   refine Zm false (fun Zdt => ?_) (fun Zdt => ?_)
   ·(conv => whnf)
    have hc9 := ift Zdt hc9
    obtain rfl := Zg hc9
    refine st ?_
    exact wx (WS.mk (tc (tc (tp (tp (Zd (Zr (web Zdt)) Zb))))) (Zf rfl (cc (cc (cc (cc Zh)))) (Zf rfl (cc (cc (cc (cc Zh)))) Zc)))
   ·(conv => whnf)
    refine st ?_
    intro hlen6
    (try rw [List.length_map] at hlen6)
    (try rw [List.length_map])
    refine st ?_
    intro hlen7
    (try rw [List.length_map] at hlen7)
    (try rw [List.length_map])
    refine st ?_
    refine Zm false (fun ZcS => ?_) (fun ZcS => ?_)
    ·have hc9 := ift (And.intro Zdt ZcS) hc9
     (conv => whnf)
     obtain rfl := Zg hc9
     refine st ?_
     exact wx (WS.mk (tc (tc (tp (tp (Zd (Zr (web (And.intro Zdt ZcS))) Zb))))) (Zf rfl (cc (cc (cc (cc Zh)))) (Zf rfl (cc (cc (cc (cc Zh)))) Zc)))
    ·have hc9 := ife (And.intro Zdt ZcS) hc9
     obtain ⟨r8, hr8, hc9⟩ := bind_some hc9
     (conv => whnf)
     refine st ?_
     refine e3 ?_
     refine st ?_
     refine cm (Zj.weak (rn []) (Zlw a.fBound b.fBound _ hr8) rfl (WS.mk (Zd (Zt (lc Zo)) (Zd (Zt (lc Zo)) Zb)) Zc)) ?_
     refine st ?_
     obtain rfl := Zg hc9
     refine st ?_
     exact wx (WS.mk (tc (tc (tp (tp (Zd (Zr (web (And.intro Zdt ZcS))) Zb))))) (Zf rfl (cc (cc (cc (cc Zh)))) (Zf rfl (cc (cc (cc (cc Zh)))) Zc)))
  obtain ⟨r0, hw⟩ := hw
  (conv => whnf)
  refine AWP.weak r0 hw ?_
  refine nw ?_
  refine Zi hF (fun ZcJ hF => ?_) (fun ZcJ hF => ?_)
  ·refine AWP.seq ?_
   refine ns ?_
   obtain rfl := Zg hF
   refine ns ?_
   refine Exists.intro [] ?_
   refine st ?_
   exact wx (WS.mk (tc Zb) Zc)
  ·refine nw ?_
   refine AWP.seq ?_
   refine AWP.seq ?_
   refine ns ?_
   refine AWP.block ?_
   refine AWP.seq ?_
   refine ns ?_
   refine nw ?_
   refine Zi hF (fun Zh6 hF => ?_) (fun Zh6 hF => ?_)
   ·refine AWP.seq ?_
    obtain ⟨r60, ZCF, hF⟩ := bind_some hF
    obtain ⟨r61, ZAR, hF⟩ := bind_some hF
    refine nn ?_
    refine Or.inr (Exists.intro [0, 4, 5, 6] (Exists.intro [[45, 49, 50, 51], [45, 49, 50, 51], [45, 49, 50, 51], [45, 49, 51]] (Exists.intro [5] (Exists.intro [2, 3, 5, 45, 49, 50, 51] (Exists.intro [45, 49, 50, 51] (Exists.intro [1, 2, 3, 7, 8, 9] (And.intro (by decide +kernel) ?_)))))))
    refine dp ?_
    refine dp ?_
    refine dp ?_
    refine dp ?_
    refine st ?_
    refine e3 ?_
    refine st ?_
    refine cm (Zj.weak (rn []) (Zjv x a.fName _ ZCF) rfl (WS.mk (tc (tc Zb)) Zc)) ?_
    refine st ?_
    refine e3 ?_
    refine st ?_
    refine cm (Zj.weak (rn []) (Zjv y b.fName _ ZAR) rfl (WS.mk (tc (tc Zb)) Zc)) ?_
    refine st ?_
    refine AWP.seq ?_
    refine AWP.cutN (fun T => ∃ r, WS r T ⟨[(8, .c none (.v (.bool ((r60 == r61) && ((decide (r60 ≥ 0)) || (a.fName.toList == b.fName.toList))))))], []⟩) ?_ (fun T hw => ?_)
    ·refine ns ?_
     refine Zm true (fun Zvo => ?_) (fun Zvo => ?_)
     ·(conv => whnf)
      refine st ?_
      refine Zm false (fun Zqa => ?_) (fun Zqa => ?_)
      ·(conv => whnf)
       refine st ?_
       exact wx (WS.mk (Zd (Zr (web (And.intro Zvo Zqa))) Zb) Zc)
      ·(conv => whnf)
       refine st ?_
       exact wx (WS.mk (Zd (Zr (web (And.intro Zvo Zqa))) Zb) Zc)
     ·(conv => whnf)
      refine st ?_
      exact wx (WS.mk (Zd (Zr (web Zvo)) Zb) Zc)
    obtain ⟨r0, hw⟩ := hw
    (conv => whnf)
    refine AWP.weak r0 hw ?_
    obtain rfl := Zg hF
    refine ns ?_
    refine Exists.intro [] ?_
    refine st ?_
    exact wx (WS.mk (tc Zb) Zc)
   ·refine AWP.seq ?_
    refine ns ?_
    refine nw ?_
    refine Zi hF (fun ZrF hF => ?_) (fun ZrF hF => ?_)
    ·refine AWP.seq ?_
     refine ns ?_
     refine AWP.seq ?_
     obtain ⟨ZDL, hF⟩ := Zy hF
     refine nn ?_
     refine sa (fun l => ZbU l (fun x => ZfO x)) ZDL ?_
     refine Exists.intro _ (And.intro (WE.refl _) ?_)
     (try rw [List.nil_append])
     refine st ?_
     refine AWP.seq ?_
     obtain ⟨ZHD, hF⟩ := Zy hF
     refine ns ?_
     refine Exists.intro _ (And.intro (Zbt (f := c_S) (lc Zo) (ZY (f := c_S))) ?_)
     refine sa (fun l => ZbU l (fun x => ZfO x)) ZHD ?_
     refine Exists.intro _ (And.intro (WE.refl _) ?_)
     rw [← List.map_append]
     refine st ?_
     refine AWP.seq ?_
     obtain ⟨ZHG, hF⟩ := Zy hF
     refine nn ?_
     refine sa (fun l => ZbU l (fun x => ZfO x)) ZHG ?_
     refine Exists.intro _ (And.intro (WE.refl _) ?_)
     (try rw [List.nil_append])
     refine st ?_
     refine AWP.seq ?_
     obtain ⟨ZID, hF⟩ := Zy hF
     refine ns ?_
     refine Exists.intro _ (And.intro (Zbt (f := c_S) (lc Zo) (ZY (f := c_S))) ?_)
     refine sa (fun l => ZbU l (fun x => ZfO x)) ZID ?_
     refine Exists.intro _ (And.intro (WE.refl _) ?_)
     rw [← List.map_append]
     refine st ?_
     refine AWP.seq ?_
     refine ns ?_
     refine ns ?_
     refine AWP.weak (rn []) ?_ (Zhy (x ++ ([a.fName])) (y ++ ([b.fName])) a b _ hF)
     exact (WS.mk (tc (tc (tp (tp Zb)))) (Zf rfl (cc (cc (cc (cc Zh)))) (Zf rfl (cc (cc (cc (cc Zh)))) Zc)))
    ·refine AWP.seq ?_
     refine ns ?_
     refine nw ?_
     refine Zi hF (fun ZD1 hF => ?_) (fun ZD1 hF => ?_)
     ·refine AWP.seq ?_
      refine ns ?_
      obtain rfl := Zg hF
      refine ns ?_
      refine Exists.intro [] ?_
      refine st ?_
      exact wx (WS.mk (tc Zb) Zc)
     ·refine nw ?_
      refine AWP.weak (rn []) ?_ (Zhy x y a b _ hF)
      exact (WS.mk (tc (tc (tp (tp Zb)))) (Zf rfl (cc (cc (cc (cc Zh)))) (Zf rfl (cc (cc (cc (cc Zh)))) Zc)))
 ·intro lazycref04_Alike_l2' Zfr x_2 y_3 a b r hF
  unfold ZaI.M
  refine AWP.seq ?_
  refine AWP.seq ?_
  refine ns ?_
  refine AWP.block ?_
  refine AWP.loop ?_
  refine AWL.weak (rn []) ?_ (Zfr x_2 y_3 0 a b a.fKids _ hF ([]) rfl rfl)
  exact (WS.mk (tc (tc (tp (tp (tc Zb))))) (Zf rfl (cc (cc (cc (cc Zh)))) (Zf rfl (cc (cc (cc (cc Zh)))) Zc)))
 ·intro lazycref04_Alike' lazycref04_Alike_l2' ZnH Zfr x_2 y_3 Zge a b ZcI r hF
  unfold Z6.M
  intro Zho ZoN Zou
  refine AWL.step ?_
  refine AWP.seq ?_
  refine AWP.seq ?_
  refine ns ?_
  intro hlen48
  (try rw [List.length_map] at hlen48)
  (try rw [List.length_map])
  refine st ?_
  refine nw ?_
  refine ZN ZoN Zou (fun x49 ZCQ ZDV ZGR ZD5 => ?_) (fun ZDV => ?_)
  ·subst ZDV
   refine nw ?_
   refine AWP.seq ?_
   refine AWP.block ?_
   refine AWP.seq ?_
   obtain ⟨x54, ZHM, hF⟩ := bind_some hF
   obtain ⟨r55, ZHF, hF⟩ := bind_some hF
   refine nn ?_
   refine Or.inl (Exists.intro 12 (Exists.intro [[], [], [], [], [], [], [], [], [], [], [], []] (Exists.intro [([94, 95, 96, 97, 98, 99, 100, 101, 102, 103, 104, 105], [], []), ([95, 96, 97, 98, 99, 100, 101, 102, 103, 104, 105], [], []), ([94, 95, 96, 97, 98, 99, 100, 101, 102, 103, 104, 105], [], []), ([97, 98, 99, 100, 101, 102, 103, 104, 105], [], []), ([98, 99, 100, 101, 102, 103, 104, 105], [], []), ([94, 95, 96, 97, 98, 99, 100, 101, 102, 103, 104, 105], [], []), ([94, 95, 96, 97, 98, 100, 101, 102, 103, 104, 105], [], []), ([94, 95, 96, 97, 98, 99, 100, 101, 102, 103, 104, 105], [], []), ([94, 95, 96, 97, 98, 102, 103, 104, 105], [], []), ([94, 95, 96, 97, 98, 103, 104, 105], [], []), ([94, 95, 96, 97, 98, 99, 100, 101, 102, 103, 104, 105], [], []), ([94, 95, 96, 97, 98, 99, 100, 101, 102, 103, 104, 105], [], [])] (Exists.intro [94, 95, 96, 97, 98, 99, 100, 101, 102, 103, 104, 105] (And.intro (by decide +kernel) ?_)))))
   refine dp ?_
   refine dp ?_
   refine dp ?_
   refine dr (Zab (Za.cells_eq x49) ZGR) ?_
   refine dp ?_
   refine dp ?_
   refine dp ?_
   refine dp ?_
   refine dr (Zab (Za.cells_eq x54) ZHM) ?_
   refine dp ?_
   refine dp ?_
   refine dp ?_
   refine st ?_
   refine e3 ?_
   refine st ?_
   refine cm (Zj.weak (rn []) (ZnH x49 x54 x_2 y_3 _ ZHF) rfl (WS.mk (Zd (Zt (lc (lc (lc (lc Zo))))) (Zd (Zt (lc (lc (lc (lc Zo))))) (tc (tc Zb)))) Zc)) ?_
   refine st ?_
   refine nw ?_
   refine Zi hF (fun ZkE hF => ?_) (fun ZkE hF => ?_)
   ·refine AWP.seq ?_
    refine ns ?_
    obtain rfl := Zg hF
    refine ns ?_
    refine Exists.intro [] ?_
    refine st ?_
    exact wx (WS.mk (tc Zb) Zc)
   ·refine nw ?_
    refine ns ?_
    refine AWL.weak (rn []) ?_ (Zfr x_2 y_3 (Zge + 1) a b ZCQ _ hF (Zho ++ [x49]) (by rw [ZoN]; simp) (by rw [Zou]; simp))
    exact (WS.mk (tc (tc (tp (tp (Zd (Zr (Zdf (ZV hlen48 ZD5))) Zb))))) (Zf rfl (cc (cc (cc (cc Zh)))) (Zf rfl (cc (cc (cc (cc Zh)))) Zc)))
  ·subst ZDV
   refine nw ?_
   refine AWP.seq ?_
   refine ns ?_
   obtain rfl := Zg hF
   refine ns ?_
   refine Exists.intro [] ?_
   refine st ?_
   exact wx (WS.mk (tc Zb) Zc)
theorem ZnL : ∀ (a : Za) (b : Za) (x : (List ByteArray)) (y : (List ByteArray)), ∀ r, ZaS a b x y = some r → ZaS.M a b x y r := ZfW.1
theorem lazycref04_Alike_k1_ok : ∀ (x_2 : (List ByteArray)) (y_3 : (List ByteArray)) (a : Za) (b : Za), ∀ r, ZaI x_2 y_3 a b = some r → ZaI.M x_2 y_3 a b r := ZfW.2.1
theorem lazycref04_Alike_l2_ok : ∀ (x_2 : (List ByteArray)) (y_3 : (List ByteArray)) (Zge : Nat) (a : Za) (b : Za) (ZcI : (List Za)), ∀ r, Z6 x_2 y_3 Zge a b ZcI = some r → Z6.M x_2 y_3 Zge a b ZcI r := ZfW.2.2

def Zcc (a : Za) (b : Za) : Option (Bool) :=
 ZaH a >>= fun r1 =>
 (if (r1 == 0) = true then ZaH b >>= fun r2 =>
 some (r2 == 0) else some false) >>= fun c3 =>
 (if c3 = true then ZaS a b ([] : List ByteArray) ([] : List ByteArray) >>= fun r4 =>
 some r4 else some false) >>= fun c5 =>
 some c5
def Zcc.M (a : Za) (b : Za) (r : Bool) : Prop :=
 Zj Tryz.prog 18 [.agg [.v (.int .i64 a.fOp), .v (.string a.fName), .sl (a.fBound.fArgs.map Zk.cells), .sl (a.fKids.map Za.cells)], .agg [.v (.int .i64 b.fOp), .v (.string b.fName), .sl (b.fBound.fArgs.map Zk.cells), .sl (b.fKids.map Za.cells)]] [] (fun d b => d = .c none (.v (.bool r)) ∧ b = [])
theorem Zi2 (a : Za) (b : Za) (r : Bool) (hF : Zcc a b = some r) : Zcc.M a b r := by
 unfold Zcc at hF
 unfold Zcc.M
 refine en Tryz.func18 ?_
 refine AWP.seq ?_
 refine ns ?_
 refine AWP.seq ?_
 obtain ⟨r1, hr1, hF⟩ := bind_some hF
 obtain ⟨c3, hc3, hF⟩ := bind_some hF
 obtain ⟨c5, hc5, hF⟩ := bind_some hF
 refine AWP.cutN (fun T => ∃ r, WS r T ⟨[(4, .c none (.v (.bool c5)))], []⟩) ?_ (fun T hw => ?_)
 ·refine ns ?_
  refine e3 ?_
  refine st ?_
  refine cm (Zj.weak (rn []) (ZdI a _ hr1) rfl (WS.mk (Zd (Zt (lc (lc (lc (lc Zo))))) Zb) Zc)) ?_
  refine st ?_
  refine Zm true (fun hc6 => ?_) (fun hc6 => ?_)
  ·have hc3 := ift hc6 hc3
   obtain ⟨r2, hr2, hc3⟩ := bind_some hc3
   (conv => whnf)
   refine st ?_
   refine e3 ?_
   refine st ?_
   refine cm (Zj.weak (rn []) (ZdI b _ hr2) rfl (WS.mk (Zd (Zt (lc (lc (lc (lc Zo))))) Zb) Zc)) ?_
   refine st ?_
   obtain rfl := Zg hc3
   refine st ?_
   refine Zm true (fun hc7 => ?_) (fun hc7 => ?_)
   ·have hc5 := ift (And.intro hc6 hc7) hc5
    obtain ⟨r4, hr4, hc5⟩ := bind_some hc5
    (conv => whnf)
    refine st ?_
    refine e3 ?_
    refine st ?_
    refine cm (Zj.weak (rn []) (ZnL a b ([] : List ByteArray) ([] : List ByteArray) _ hr4) rfl (WS.mk (Zd (Zt (lc (lc (lc (lc Zo))))) (Zd (Zt (lc (lc (lc (lc Zo))))) (Zd (Zr WE.nil) (Zd (Zr WE.nil) Zb)))) Zc)) ?_
    refine st ?_
    obtain rfl := Zg hc5
    refine st ?_
    exact wx (WS.mk (Zd (Zr (web (And.intro hc6 hc7))) Zb) Zc)
   ·have hc5 := ife (And.intro hc6 hc7) hc5
    (conv => whnf)
    obtain rfl := Zg hc5
    refine st ?_
    exact wx (WS.mk (Zd (Zr (web (And.intro hc6 hc7))) Zb) Zc)
  ·have hc3 := ife hc6 hc3
   (conv => whnf)
   obtain rfl := Zg hc3
   have hc5 := ife hc6 hc5
   obtain rfl := Zg hc5
   refine st ?_
   exact wx (WS.mk (Zd (Zr (web hc6)) Zb) Zc)
 obtain ⟨r0, hw⟩ := hw
 (conv => whnf)
 refine AWP.weak r0 hw ?_
 obtain rfl := Zg hF
 refine ns ?_
 refine Exists.intro [] ?_
 refine st ?_
 exact wx (WS.mk (tc Zb) Zc)

def Zby (a : (List Ze)) (b : (List Ze)) (i_5 : Nat) (Zay : (List Ze)) : Option (Bool) :=
 (match Zay with
 | x32 :: ZvH =>
 (b[i_5]?) >>= fun x35 =>
 (if (!(x32.fName.toList == x35.fName.toList)) = true then some true else (b[i_5]?) >>= fun x36 =>
 Zcc x32.fType x36.fType >>= fun r37 =>
 some (!r37)) >>= fun c38 =>
 if c38 = true then
 some false
 else
 Zby a b (i_5 + 1) ZvH
 | [] =>
 some true)
 partial_fixpoint
def Zby.M (a : (List Ze)) (b : (List Ze)) (i_5 : Nat) (Zay : (List Ze)) (r : Bool) : Prop :=
 ∀ Zdx : List Ze, a = Zdx ++ Zay → i_5 = Zdx.length → a.length ≤ maxLen → b.length ≤ maxLen → AWL Tryz.prog 42 (Code.sub (Zq Tryz.f14) [1, 1, 0, 1, 0, 0]) (Code.cont Tryz.prog 42 (Zq Tryz.f14) [1, 1, 0, 1, 0] (ZbW tab Tryz.f14.results (ZbY (.c none (.v (.bool r))) []))) ⟨[(0, .c none (.sl (a.map Ze.cells))), (1, .c none (.sl (b.map Ze.cells))), (5, .c none (.v (.int .i64 ((i_5 : Nat) : Int))))], []⟩
theorem Zmk (a : (List Ze)) (b : (List Ze)) (i_5 : Nat) (Zay : (List Ze)) : ∀ r, Zby a b i_5 Zay = some r → Zby.M a b i_5 Zay r := by
 refine Zby.partial_correctness a b (fun i_5 Zay r => Zby.M a b i_5 Zay r) ?_ i_5 Zay
 intro lazycref18_Same_l1' Zhw i_5 Zay r hF
 have Zmb := fun (_a : (List Ze)) (_b : (List Ze)) (i_5 : Nat) (Zay : (List Ze)) => Zhw i_5 Zay
 clear Zhw
 unfold Zby.M
 intro Zdx Zhs ZhA hlen4 hlen5
 refine AWL.step ?_
 refine AWP.seq ?_
 refine AWP.seq ?_
 refine ns ?_
 intro hlen31
 (try rw [List.length_map] at hlen31)
 (try rw [List.length_map])
 refine st ?_
 refine nw ?_
 refine ZN Zhs ZhA (fun x32 ZvH ZvF ZBo ZCf => ?_) (fun ZvF => ?_)
 ·subst ZvF
  refine nw ?_
  refine AWP.seq ?_
  refine AWP.block ?_
  refine AWP.seq ?_
  obtain ⟨x35, ZIa, hF⟩ := bind_some hF
  obtain ⟨c38, Zkv, hF⟩ := bind_some hF
  refine AWP.cutN (fun T => ∃ r, WS r T ⟨[(0, .c none (.sl (a.map Ze.cells))), (1, .c none (.sl (b.map Ze.cells))), (5, .c none (.v (.int .i64 ((i_5 : Nat) : Int)))), (41, .c none (.v (.bool c38)))], []⟩) ?_ (fun T hw => ?_)
  ·refine nn ?_
   refine Or.inl (Exists.intro 22 (Exists.intro [[], [], [], [], [], [], [], [], [], [], [], [], [], [], [], [], [], [], [], [], [], []] (Exists.intro [([17, 18, 19, 20, 21, 22, 23, 24, 25, 26, 27, 28, 29, 30, 31, 32, 33, 34, 35, 36, 37, 38], [], []), ([17, 18, 19, 20, 21, 22, 23, 24, 25, 26, 27, 28, 29, 30, 31, 32, 33, 34, 35, 36, 37, 38], [], []), ([19, 20, 21, 22, 23, 24, 25, 26, 27, 28, 29, 30, 31, 32, 33, 34, 35, 36, 37, 38], [], []), ([20, 21, 22, 23, 24, 25, 26, 27, 28, 29, 30, 31, 32, 33, 34, 35, 36, 37, 38], [], []), ([21, 22, 23, 24, 25, 26, 27, 28, 29, 30, 31, 32, 33, 34, 35, 36, 37, 38], [], []), ([17, 18, 19, 20, 21, 22, 23, 24, 25, 26, 27, 28, 29, 30, 31, 32, 33, 34, 35, 36, 37, 38], [], []), ([17, 18, 19, 20, 21, 22, 23, 24, 25, 26, 27, 28, 29, 30, 31, 32, 33, 34, 35, 36, 37, 38], [], []), ([17, 18, 19, 20, 21, 24, 25, 26, 27, 28, 29, 30, 31, 32, 33, 34, 35, 36, 37, 38], [], []), ([17, 18, 19, 20, 21, 25, 26, 27, 28, 29, 30, 31, 32, 33, 34, 35, 36, 37, 38], [], []), ([17, 18, 19, 20, 21, 26, 27, 28, 29, 30, 31, 32, 33, 34, 35, 36, 37, 38], [], []), ([27, 28, 29, 30, 31, 32, 33, 34, 35, 36, 37, 38], [], []), ([28, 29, 30, 31, 32, 33, 34, 35, 36, 37, 38], [], []), ([29, 30, 31, 32, 33, 34, 35, 36, 37, 38], [], []), ([29, 30, 31, 32, 33, 34, 35, 36, 37, 38], [], []), ([31, 32, 33, 34, 35, 36, 37, 38], [], []), ([32, 33, 34, 35, 36, 37, 38], [], []), ([33, 34, 35, 36, 37, 38], [], []), ([29, 30, 31, 32, 33, 34, 35, 36, 37, 38], [], []), ([29, 30, 31, 32, 33, 34, 35, 36, 37, 38], [], []), ([29, 30, 31, 32, 33, 36, 37, 38], [], []), ([29, 30, 31, 32, 33, 37, 38], [], []), ([29, 30, 31, 32, 33, 38], [], [])] (Exists.intro [17, 18, 19, 20, 21, 22, 23, 24, 25, 26, 27, 28, 29, 30, 31, 32, 33, 34, 35, 36, 37, 38] (And.intro (by decide +kernel) ?_)))))
   refine dp ?_
   refine dp ?_
   refine dr (Zab (Ze.cells_eq x32) ZBo) ?_
   refine dp ?_
   refine dp ?_
   refine dp ?_
   refine dp ?_
   refine dr (Zab (Ze.cells_eq x35) ZIa) ?_
   refine dp ?_
   refine dp ?_
   refine dp ?_
   refine dp ?_
   refine st ?_
   refine Zm false (fun ZhU => ?_) (fun ZhU => ?_)
   ·have Zkv := ift ZhU Zkv
    (conv => whnf)
    obtain rfl := Zg Zkv
    refine st ?_
    exact wx (WS.mk (tc (tc (tc (Zd (Zr (web ZhU)) Zb)))) Zc)
   ·have Zkv := ife ZhU Zkv
    obtain ⟨x36, ZH1, Zkv⟩ := bind_some Zkv
    obtain ⟨r37, ZCi, Zkv⟩ := bind_some Zkv
    (conv => whnf)
    refine dp ?_
    refine dp ?_
    refine dr (Zab (Ze.cells_eq x32) ZBo) ?_
    refine dp ?_
    refine dp ?_
    refine dp ?_
    refine dp ?_
    refine dr (Zab (Ze.cells_eq x36) ZH1) ?_
    refine dp ?_
    refine dp ?_
    refine st ?_
    refine e3 ?_
    refine st ?_
    refine cm (Zj.weak (rn []) (Zi2 x32.fType x36.fType _ ZCi) rfl (WS.mk (Zd (Zt (lc (lc (lc (lc Zo))))) (Zd (Zt (lc (lc (lc (lc Zo))))) Zb)) Zc)) ?_
    refine st ?_
    obtain rfl := Zg Zkv
    refine st ?_
    exact wx (WS.mk (tc (tc (tc (Zd (Zr (web ZhU)) Zb)))) Zc)
  obtain ⟨r0, hw⟩ := hw
  (conv => whnf)
  refine AWP.weak r0 hw ?_
  refine nw ?_
  refine Zi hF (fun Zn0 hF => ?_) (fun Zn0 hF => ?_)
  ·refine AWP.seq ?_
   refine ns ?_
   obtain rfl := Zg hF
   refine ns ?_
   refine Exists.intro [] ?_
   refine st ?_
   exact wx (WS.mk (tc Zb) Zc)
  ·refine nw ?_
   refine ns ?_
   refine AWL.weak (rn []) ?_ (Zmb a b (i_5 + 1) ZvH _ hF (Zdx ++ [x32]) (by rw [Zhs]; simp) (by rw [ZhA]; simp) hlen31 hlen5)
   exact (WS.mk (tc (tc (Zd (Zr (Zdf (ZV hlen31 ZCf))) Zb))) Zc)
 ·subst ZvF
  refine nw ?_
  refine AWP.seq ?_
  refine ns ?_
  obtain rfl := Zg hF
  refine ns ?_
  refine Exists.intro [] ?_
  refine st ?_
  exact wx (WS.mk (tc Zb) Zc)

def ZbL (a : (List Ze)) (b : (List Ze)) : Option (Bool) :=
 if (((a.length : Nat) : Int) != ((b.length : Nat) : Int)) = true then
 some false
 else
 Zby a b 0 a
def ZbL.M (a : (List Ze)) (b : (List Ze)) (r : Bool) : Prop :=
 Zj Tryz.prog 14 [.c none (.sl (a.map Ze.cells)), .c none (.sl (b.map Ze.cells))] [] (fun d b => d = .c none (.v (.bool r)) ∧ b = [])
theorem ZjH (a : (List Ze)) (b : (List Ze)) (r : Bool) (hF : ZbL a b = some r) : ZbL.M a b r := by
 unfold ZbL at hF
 unfold ZbL.M
 refine en Tryz.func14 ?_
 refine AWP.seq ?_
 refine ns ?_
 refine AWP.seq ?_
 refine AWP.seq ?_
 refine ns ?_
 intro hlen4
 (try rw [List.length_map] at hlen4)
 (try rw [List.length_map])
 refine st ?_
 intro hlen5
 (try rw [List.length_map] at hlen5)
 (try rw [List.length_map])
 refine st ?_
 refine nw ?_
 refine Zi hF (fun hc6 hF => ?_) (fun hc6 hF => ?_)
 ·refine AWP.seq ?_
  refine ns ?_
  obtain rfl := Zg hF
  refine ns ?_
  refine Exists.intro [] ?_
  refine st ?_
  exact wx (WS.mk (tc Zb) Zc)
 ·refine nw ?_
  refine AWP.seq ?_
  refine AWP.seq ?_
  refine ns ?_
  refine AWP.block ?_
  refine AWP.loop ?_
  refine AWL.weak (rn []) ?_ (Zmk a b 0 a _ hF ([]) rfl rfl hlen4 hlen5)
  exact (WS.mk (tc (tc (tc Zb))) Zc)

def Zdi (s : ByteArray) : Option (Za) :=
 some (Za.mk 2 s (Zk.mk ([] : List Zk)) ([] : List Za))
def Zdi.M (s : ByteArray) (r : Za) : Prop :=
 Zj Tryz.prog 30 [.c none (.v (.string s))] [] (fun d b => d = .agg [.v (.int .i64 r.fOp), .v (.string r.fName), .sl (r.fBound.fArgs.map Zk.cells), .sl (r.fKids.map Za.cells)] ∧ b = [])
theorem ZfI (s : ByteArray) (r : Za) (hF : Zdi s = some r) : Zdi.M s r := by
 unfold Zdi at hF
 unfold Zdi.M
 refine en Tryz.func30 ?_
 refine AWP.seq ?_
 refine ns ?_
 refine AWP.seq ?_
 refine ns ?_
 obtain rfl := Zg hF
 refine ns ?_
 refine Exists.intro [] ?_
 refine st ?_
 exact wx (WS.mk (Zd (Zt (lc (lc (ZaR WE.nil (ZaR WE.nil Zo))))) Zb) Zc)

end Go.Proofs.YtgbglhbdjambbaaGreatDoor
