/- Part 6 of the proof: the program's functions as Lean functions with their walks, and the plain law. It holds for every input, without conditions. -/
import Derived.Test.YtgbglhbdjambbaaGreatDoorUgA
import Derived.Test.YtgbglhbdjambbaaGreatDoorUgB
import Derived.Test.YtgbglhbdjambbaaGreatDoorUgC
import Derived.Test.YtgbglhbdjambbaaGreatDoorUgD
import Derived.Test.YtgbglhbdjambbaaGreatDoorUgE
set_option linter.unusedVariables false
set_option linter.unusedSimpArgs false
set_option maxRecDepth 100000
set_option maxHeartbeats 4000000
set_option synthInstance.maxHeartbeats 1000000
set_option synthInstance.maxSize 1000
namespace Go.Proofs.YtgbglhbdjambbaaGreatDoor
open Go Go.Am
mutual
def Zb1 (t : Za) : Option (Za) :=
 ZaG t.fBound >>= fun r1 =>
 ZaU t 0 r1 ([]) t.fKids
 partial_fixpoint
def ZaU (t : Za) (Zg2 : Nat) (r1 : (Zi)) (Zf3 : (List Za)) (Zc7 : (List Za)) : Option (Za) :=
 (match Zc7 with
 | x60 :: ZC2 =>
 Zb1 x60 >>= fun r69 =>
 ZK ((Zf3.length + ([r69]).length) * 72 ≤ 140737488355328) >>= fun _ =>
 ZaU t (Zg2 + 1) r1 (Zf3 ++ ([r69])) ZC2
 | [] =>
 some (Za.mk t.fOp t.fName r1 Zf3))
 partial_fixpoint
end
def Zb1.M (t : Za) (r : Za) : Prop :=
 Zk Tryz.prog 95 [.agg [.v (.int .i64 t.fOp), .v (.string t.fName), .sl (t.fBound.fArgs.map Zi.cells), .sl (t.fKids.map Za.cells)]] [] (fun d b => d = .agg [.v (.int .i64 r.fOp), .v (.string r.fName), .sl (r.fBound.fArgs.map Zi.cells), .sl (r.fKids.map Za.cells)] ∧ b = [])
def ZaU.M (t : Za) (Zg2 : Nat) (r1 : (Zi)) (Zf3 : (List Za)) (Zc7 : (List Za)) (r : Za) : Prop :=
 ∀ Zeo : List Za, t.fKids = Zeo ++ Zc7 → Zg2 = Zeo.length → t.fKids.length ≤ maxLen → AWL Tryz.prog 28 (Code.sub (Zq Tryz.f95) [1, 1, 1, 1, 0, 1, 0, 0]) (Code.cont Tryz.prog 28 (Zq Tryz.f95) [1, 1, 1, 1, 0, 1, 0] (ZbS tab Tryz.f95.results (ZbX (.agg [.v (.int .i64 r.fOp), .v (.string r.fName), .sl (r.fBound.fArgs.map Zi.cells), .sl (r.fKids.map Za.cells)]) []))) ⟨[(1, .ptr 1 0), (2, .ptr 2 0), (13, .c none (.sl (t.fKids.map Za.cells))), (14, .c none (.v (.int .i64 ((t.fKids.length : Nat) : Int)))), (15, .c none (.v (.int .i64 ((Zg2 : Nat) : Int))))], [(1, [(none, .v (.int .i64 t.fOp)), (none, .v (.string t.fName)), (none, .sl (r1.fArgs.map Zi.cells)), ((some (4053, 28)), .sl (Zf3.map Za.cells))]), (2, [(none, .v (.int .i64 0)), (none, .v (.string (ByteArray.mk #[]))), (none, .nils), (none, .nils)])]⟩
theorem Zo2 : (∀ (t : Za), ∀ r, Zb1 t = some r → Zb1.M t r) ∧ (∀ (t : Za) (Zg2 : Nat) (r1 : (Zi)) (Zf3 : (List Za)) (Zc7 : (List Za)), ∀ r, ZaU t Zg2 r1 Zf3 Zc7 = some r → ZaU.M t Zg2 r1 Zf3 Zc7 r) := by
 refine Zb1.mutual_partial_correctness Zb1.M ZaU.M ?_ ?_
 ·intro types_copied_l1' Zgs t r hF
  unfold Zb1.M
  refine en Tryz.func95 ?_
  refine AWP.seq ?_
  refine ns ?_
  refine AWP.seq ?_
  obtain ⟨r1, hr1, hF⟩ := bind_some hF
  refine ns ?_
  refine e3 ?_
  refine st ?_
  refine cm (Zk.weak (rn []) (ZmW t.fBound _ hr1) rfl (WS.mk (Zd (Zt (lc Zo)) Zc) Zb)) ?_
  refine st ?_
  refine AWP.seq ?_
  refine ns ?_
  refine AWP.seq ?_
  refine ns ?_
  refine AWP.seq ?_
  refine AWP.seq ?_
  refine ns ?_
  intro hlen36
  (try rw [List.length_map] at hlen36)
  (try rw [List.length_map])
  refine st ?_
  refine AWP.block ?_
  refine AWP.loop ?_
  refine AWL.weak (rn []) ?_ (Zgs t 0 r1 ([]) t.fKids _ hF ([]) rfl rfl hlen36)
  exact (WS.mk (tp (tp (tc (tc (tc Zc))))) (Zf rfl (cc (cc (cc (Zmw Zh)))) (Zf rfl (cc (cc (cc (cc Zh)))) Zb)))
 ·intro types_copied' types_copied_l1' ZpM Zgs t Zg2 r1 Zf3 Zc7 r hF
  unfold ZaU.M
  intro Zeo Zjt Zjl hlen36
  refine AWL.step ?_
  refine AWP.seq ?_
  refine ns ?_
  refine AWP.seq ?_
  refine nw ?_
  refine ZS Zjt Zjl (fun x60 ZC2 ZDJ ZHj ZGx => ?_) (fun ZDJ => ?_)
  ·subst ZDJ
   refine nw ?_
   refine AWP.seq ?_
   refine AWP.block ?_
   refine AWP.seq ?_
   refine nn ?_
   refine sr (Zau (f := Za.cells) (Za.cells_eq x60) ZHj) ?_
   refine st ?_
   obtain ⟨r69, ZDa, hF⟩ := bind_some hF
   obtain ⟨ZGQ, hF⟩ := Zy hF
   refine nn ?_
   refine Or.inl (Or.inl (Exists.intro 5 (Exists.intro [[], [], [], [], []] (Exists.intro [([19, 20, 21, 22, 23], [], []), ([20, 21, 22, 23], [], []), ([19, 20, 21, 22, 23], [], []), ([19, 20, 22, 23], [], []), ([19, 20, 23], [], [])] (Exists.intro [19, 20, 21, 22, 23] (And.intro (by decide +kernel) ?_))))))
   refine dp ?_
   refine dp ?_
   refine dp ?_
   (refine st ?_; apply Exists.intro; apply Exists.intro; apply And.intro; (focus ((conv => whnf); refine Exists.intro [] ?_; (conv => whnf); refine And.intro rfl ?_; (conv => whnf); refine Zk.mono (Zk.weak (rn []) (ZpM x60 _ ZDa) rfl (WS.mk (Zd (Zt (lc (lc (lc (lc Zo))))) Zc) Zb)) ?_; rintro d b ⟨rfl, rfl⟩; exact And.intro rfl (And.intro rfl rfl))); apply And.intro; (focus exact rfl); (conv => whnf))
   refine de (Zcm (f := Za.cells) (Zea (Za.cells_eq r69) (lc (lc (lc (lc Zo))))) (Zaw (f := Za.cells))) ?_
   refine sa (fun l => ZbW l (fun x => Za.cells_len x)) ZGQ ?_
   refine Exists.intro _ (And.intro (WE.refl _) ?_)
   rw [← List.map_append]
   refine st ?_
   refine ns ?_
   refine AWL.weak (rn [(24, 4053)]) ?_ (Zgs t (Zg2 + 1) r1 (Zf3 ++ ([r69])) ZC2 _ hF (Zeo ++ [x60]) (by rw [Zjt]; simp) (by rw [Zjl]; simp) hlen36)
   exact (WS.mk (tp (tp (tc (tc (Zd (Zs (Zdd (ZZ hlen36 ZGx))) Zc))))) (Zf rfl (cc (cc (cc (ZsY rfl (WE.refl _) Zh)))) (Zf rfl (cc (cc (cc (cc Zh)))) Zb)))
  ·subst ZDJ
   refine nw ?_
   refine AWP.seq ?_
   refine ns ?_
   obtain rfl := Zg hF
   refine ns ?_
   refine Exists.intro [] ?_
   refine st ?_
   exact wx (WS.mk (Zd (Zt (lc (lc (lc (lc Zo))))) Zc) Zb)
theorem ZpI : ∀ (t : Za), ∀ r, Zb1 t = some r → Zb1.M t r := Zo2.1

def Za9 (t : Za) (s : Zr) : Option (Za) :=
 some t
def Za9.M (t : Za) (s : Zr) (r : Za) : Prop :=
 AWP Tryz.prog 30 (Code.sub (Zq Tryz.f52) [1, 1]) (Code.cont Tryz.prog 30 (Zq Tryz.f52) [1, 1] (ZbS tab Tryz.f52.results (ZbX (.agg [.v (.int .i64 r.fOp), .v (.string r.fName), .sl (r.fBound.fArgs.map Zi.cells), .sl (r.fKids.map Za.cells)]) [(1000, [(none, .rs 1001 s.flist.length), (none, .rf 1002)]), (1001, [(none, .ob 90 (s.flist.map Ze.cells))]), (1002, [(none, .ob 109 (s.fat.map (ZdK c_S Zb6)))])]))) ⟨[(3, .ptr 3 0), (4, .ptr 4 0)], [(3, [(none, .v (.int .i64 t.fOp)), (none, .v (.string t.fName)), (none, .sl (t.fBound.fArgs.map Zi.cells)), (none, .sl (t.fKids.map Za.cells))]), (4, [(none, .v (.int .i64 0)), (none, .v (.string (ByteArray.mk #[]))), (none, .nils), (none, .nils)]), (1000, [(none, .rs 1001 s.flist.length), (none, .rf 1002)]), (1001, [(none, .ob 90 (s.flist.map Ze.cells))]), (1002, [(none, .ob 109 (s.fat.map (ZdK c_S Zb6)))])]⟩
theorem Zfd (t : Za) (s : Zr) (r : Za) (hF : Za9 t s = some r) : Za9.M t s r := by
 unfold Za9 at hF
 unfold Za9.M
 refine AWP.seq ?_
 refine ns ?_
 obtain rfl := Zg hF
 refine ns ?_
 refine Exists.intro [(1000, 1000), (1001, 1001), (1002, 1002)] ?_
 refine st ?_
 exact wx (WS.mk (Zd (Zt (lc (lc (lc (lc Zo))))) Zc) (Zf rfl (Zew (ZaH (by first | exact rfl | simp only [List.length_set])) (cc Zh)) (Zf rfl (cc Zh) (Zf rfl (cc Zh) Zb))))

def ZaC (s : Zr) (t : Za) : Option (Za) :=
 if (t.fOp == 1) = true then
 Zeh s.fat 0 t.fName >>= fun r8 =>
 if r8.2 = true then
 (ixI s.flist r8.1) >>= fun x10 =>
 some x10.fType
 else
 Za9 t s
 else
 Za9 t s
def ZaC.M (s : Zr) (t : Za) (r : Za) : Prop :=
 Zk Tryz.prog 52 [.ptr 1000 0, .agg [.v (.int .i64 t.fOp), .v (.string t.fName), .sl (t.fBound.fArgs.map Zi.cells), .sl (t.fKids.map Za.cells)]] [(1000, [(none, .rs 1001 s.flist.length), (none, .rf 1002)]), (1001, [(none, .ob 90 (s.flist.map Ze.cells))]), (1002, [(none, .ob 109 (s.fat.map (ZdK c_S Zb6)))])] (fun d b => d = .agg [.v (.int .i64 r.fOp), .v (.string r.fName), .sl (r.fBound.fArgs.map Zi.cells), .sl (r.fKids.map Za.cells)] ∧ b = [(1000, [(none, .rs 1001 s.flist.length), (none, .rf 1002)]), (1001, [(none, .ob 90 (s.flist.map Ze.cells))]), (1002, [(none, .ob 109 (s.fat.map (ZdK c_S Zb6)))])])
theorem Zgh (s : Zr) (t : Za) (r : Za) (hF : ZaC s t = some r) : ZaC.M s t r := by
 unfold ZaC at hF
 unfold ZaC.M
 refine en Tryz.func52 ?_
 refine AWP.seq ?_
 refine ns ?_
 refine AWP.seq ?_
 refine AWP.seq ?_
 refine ns ?_
 refine nw ?_
 refine Zj hF (fun hc6 hF => ?_) (fun hc6 hF => ?_)
 ·refine AWP.seq ?_
  obtain ⟨r8, hr8, hF⟩ := bind_some hF
  refine nn ?_
  refine Or.inl (Or.inl (Exists.intro 11 (Exists.intro [[], [], [], [], [], [], [], [], [], [], []] (Exists.intro [([11, 12, 13, 14, 15, 16, 17, 10, 18, 19, 5], [], []), ([12, 13, 14, 15, 16, 17, 10, 18, 19, 5], [], []), ([13, 14, 15, 16, 17, 10, 18, 19, 5], [], []), ([14, 15, 16, 17, 10, 18, 19, 5], [], []), ([11, 12, 13, 14, 15, 16, 17, 10, 18, 19, 5], [], []), ([11, 12, 13, 14, 16, 17, 10, 18, 19, 5], [], []), ([17, 10, 18, 19, 5], [], []), ([10, 18, 19, 5], [], []), ([18, 19, 5], [], []), ([18, 19, 5], [], []), ([19, 5], [], [])] (Exists.intro [11, 12, 13, 14, 15, 16, 17, 10, 18, 19, 5] (And.intro (by decide +kernel) ?_))))))
  refine dp ?_
  refine dp ?_
  refine dp ?_
  refine dp ?_
  refine dp ?_
  refine dp ?_
  (refine st ?_; apply Exists.intro; apply Exists.intro; apply And.intro; (focus (((repeat (first | ((conv => whnf); (with_reducible refine And.intro ?_ ?_); (focus (first | exact Eq.refl _ | exact trivial | (with_reducible assumption) | (with_reducible exact Int.natCast_nonneg _) | exact Nat.le_of_ble_eq_true (Eq.refl true) | exact ZdG (Eq.refl _) (Eq.refl _) (Eq.refl _) | decide))))); (conv => whnf)) <;> (refine Zhd (m := s.fat) (k := t.fName) ZgW (ev := Zb6) hr8 rfl (fun x => Zl2 x) rfl rfl (lc Zo) ?_) <;> ((repeat (first | ((conv => whnf); (with_reducible refine And.intro ?_ ?_); (focus (first | exact Eq.refl _ | exact trivial | (with_reducible assumption) | (with_reducible exact Int.natCast_nonneg _) | exact Nat.le_of_ble_eq_true (Eq.refl true) | exact ZdG (Eq.refl _) (Eq.refl _) (Eq.refl _) | decide))))); (conv => whnf)) <;> (exact rfl))); apply And.intro; (focus exact rfl); (conv => whnf))
  refine dp ?_
  refine dp ?_
  refine dp ?_
  refine dp ?_
  refine st ?_
  refine AWP.seq ?_
  refine ns ?_
  refine nw ?_
  refine Zj hF (fun hc9 hF => ?_) (fun hc9 hF => ?_)
  ·refine AWP.seq ?_
   obtain ⟨x10, ZFO, ZEi, hF⟩ := Zej hF
   refine ns ?_
   refine And.intro (Ztj ZFO ZEi) ?_
   refine st ?_
   refine sr (Zdx (f := Ze.cells) (Ze.cells_eq x10) ZEi) ?_
   refine st ?_
   obtain rfl := Zg hF
   refine ns ?_
   refine Exists.intro [(1000, 1000), (1001, 1001), (1002, 1002)] ?_
   refine st ?_
   exact wx (WS.mk (Zd (Zt (lc (lc (lc (lc Zo))))) Zc) (Zf rfl (Zew (ZaH (by first | exact rfl | simp only [List.length_set])) (cc Zh)) (Zf rfl (cc Zh) (Zf rfl (cc Zh) Zb))))
  ·refine nw ?_
   refine AWP.weak (rn []) ?_ (Zfd t s _ hF)
   exact (WS.mk (tp (tp Zc)) (Zf rfl (cc (cc (cc (cc Zh)))) (Zf rfl (cc (cc (cc (cc Zh)))) (Zf rfl (Zew (ZaH (by first | exact rfl | simp only [List.length_set])) (cc Zh)) (Zf rfl (cc Zh) (Zf rfl (cc Zh) Zb))))))
 ·refine nw ?_
  refine AWP.weak (rn []) ?_ (Zfd t s _ hF)
  exact (WS.mk (tp (tp Zc)) (Zf rfl (cc (cc (cc (cc Zh)))) (Zf rfl (cc (cc (cc (cc Zh)))) (Zf rfl (Zew (ZaH (by first | exact rfl | simp only [List.length_set])) (cc Zh)) (Zf rfl (cc Zh) (Zf rfl (cc Zh) Zb))))))

def ZcV (s : (List Ze)) (name_ : ByteArray) (i_5 : Nat) (Zce : (List Ze)) : Option (Int) :=
 (match Zce with
 | x16 :: Zib =>
 if (x16.fName.toList == name_.toList) = true then
 some ((i_5 : Nat) : Int)
 else
 ZcV s name_ (i_5 + 1) Zib
 | [] =>
 some (-1))
 partial_fixpoint
def ZcV.M (s : (List Ze)) (name_ : ByteArray) (i_5 : Nat) (Zce : (List Ze)) (r : Int) : Prop :=
 ∀ Zen : List Ze, s = Zen ++ Zce → i_5 = Zen.length → AWL Tryz.prog 20 (Code.sub (Zq Tryz.f46) [1, 0, 1, 0, 0]) (Code.cont Tryz.prog 20 (Zq Tryz.f46) [1, 0, 1, 0] (ZbS tab Tryz.f46.results (ZbX (.c none (.v (.int .i64 r))) []))) ⟨[(0, .c none (.sl (s.map Ze.cells))), (1, .c none (.v (.string name_))), (5, .c none (.v (.int .i64 ((i_5 : Nat) : Int))))], []⟩

def Zdh (s : (List Ze)) (name_ : ByteArray) : Option (Int) :=
 ZcV s name_ 0 s
def Zdh.M (s : (List Ze)) (name_ : ByteArray) (r : Int) : Prop :=
 Zk Tryz.prog 46 [.c none (.sl (s.map Ze.cells)), .c none (.v (.string name_))] [] (fun d b => d = .c none (.v (.int .i64 r)) ∧ b = [])

def ZdV (t : Za) : Option (Za) :=
 some t
def ZdV.M (t : Za) (r : Za) : Prop :=
 AWP Tryz.prog 21 (Code.sub (Zq Tryz.f34) [1, 1]) (Code.cont Tryz.prog 21 (Zq Tryz.f34) [1, 1] (ZbS tab Tryz.f34.results (ZbX (.agg [.v (.int .i64 r.fOp), .v (.string r.fName), .sl (r.fBound.fArgs.map Zi.cells), .sl (r.fKids.map Za.cells)]) []))) ⟨[(3, .ptr 3 0), (4, .ptr 4 0)], [(3, [(none, .v (.int .i64 t.fOp)), (none, .v (.string t.fName)), (none, .sl (t.fBound.fArgs.map Zi.cells)), (none, .sl (t.fKids.map Za.cells))]), (4, [(none, .v (.int .i64 0)), (none, .v (.string (ByteArray.mk #[]))), (none, .nils), (none, .nils)])]⟩

def ZcI (s : (List Ze)) (t : Za) : Option (Za) :=
 if (t.fOp == 1) = true then
 Zdh s t.fName >>= fun r6 =>
 if (decide (r6 ≥ 0)) = true then
 (ixI s r6) >>= fun x8 =>
 some x8.fType
 else
 ZdV t
 else
 ZdV t
def ZcI.M (s : (List Ze)) (t : Za) (r : Za) : Prop :=
 Zk Tryz.prog 34 [.c none (.sl (s.map Ze.cells)), .agg [.v (.int .i64 t.fOp), .v (.string t.fName), .sl (t.fBound.fArgs.map Zi.cells), .sl (t.fKids.map Za.cells)]] [] (fun d b => d = .agg [.v (.int .i64 r.fOp), .v (.string r.fName), .sl (r.fBound.fArgs.map Zi.cells), .sl (r.fKids.map Za.cells)] ∧ b = [])

def Zas (s : (List ByteArray)) (v : ByteArray) (x_8 : Nat) (ZbO : (List ByteArray)) : Option (Int) :=
 (match ZbO with
 | x11 :: Zkm =>
 if (v.toList == x11.toList) = true then
 some ((x_8 : Nat) : Int)
 else
 Zas s v (x_8 + 1) Zkm
 | [] =>
 some (-1))
 partial_fixpoint
def Zas.M (s : (List ByteArray)) (v : ByteArray) (x_8 : Nat) (ZbO : (List ByteArray)) (r : Int) : Prop :=
 ∀ ZdO : List ByteArray, s = ZdO ++ ZbO → x_8 = ZdO.length → s.length ≤ maxLen → AWL Tryz.prog 19 (Code.sub (Zq Tryz.f123) [1, 0, 1, 0, 0]) (Code.cont Tryz.prog 19 (Zq Tryz.f123) [1, 0, 1, 0] (ZbS tab Tryz.f123.results (ZbX (.c none (.v (.int .i64 r))) []))) ⟨[(0, .c none (.sl (s.map c_S))), (1, .c none (.v (.string v))), (7, .c none (.v (.int .i64 ((s.length : Nat) : Int)))), (8, .c none (.v (.int .i64 ((x_8 : Nat) : Int))))], []⟩
theorem Zjg (s : (List ByteArray)) (v : ByteArray) (x_8 : Nat) (ZbO : (List ByteArray)) : ∀ r, Zas s v x_8 ZbO = some r → Zas.M s v x_8 ZbO r := by
 refine Zas.partial_correctness s v (fun x_8 ZbO r => Zas.M s v x_8 ZbO r) ?_ x_8 ZbO
 intro slices_Index_string_l1' ZfE x_8 ZbO r hF
 have Zja := fun (_s : (List ByteArray)) (_v : ByteArray) (x_8 : Nat) (ZbO : (List ByteArray)) => ZfE x_8 ZbO
 clear ZfE
 unfold Zas.M
 intro ZdO Zi0 ZiJ hlen1
 refine AWL.step ?_
 refine AWP.seq ?_
 refine ns ?_
 refine AWP.seq ?_
 refine nw ?_
 refine ZS Zi0 ZiJ (fun x11 Zkm ZkY Zre ZtD => ?_) (fun ZkY => ?_)
 ·subst ZkY
  refine nw ?_
  refine AWP.seq ?_
  refine AWP.block ?_
  refine AWP.seq ?_
  refine ns ?_
  refine AWP.seq ?_
  refine nn ?_
  refine sr (Zau (f := c_S) rfl Zre) ?_
  refine st ?_
  refine nw ?_
  refine Zj hF (fun Zc5 hF => ?_) (fun Zc5 hF => ?_)
  ·refine AWP.seq ?_
   refine ns ?_
   obtain rfl := Zg hF
   refine ns ?_
   refine Exists.intro [] ?_
   refine st ?_
   exact wx (WS.mk (tc Zc) Zb)
  ·refine nw ?_
   refine ns ?_
   refine AWL.weak (rn []) ?_ (Zja s v (x_8 + 1) Zkm _ hF (ZdO ++ [x11]) (by rw [Zi0]; simp) (by rw [ZiJ]; simp) hlen1)
   exact (WS.mk (tc (tc (tc (Zd (Zs (Zdd (ZZ hlen1 ZtD))) Zc)))) Zb)
 ·subst ZkY
  refine nw ?_
  refine AWP.seq ?_
  refine ns ?_
  obtain rfl := Zg hF
  refine ns ?_
  refine Exists.intro [] ?_
  refine st ?_
  exact wx (WS.mk (tc Zc) Zb)

def ZcJ (s : (List ByteArray)) (v : ByteArray) : Option (Int) :=
 Zas s v 0 s
def ZcJ.M (s : (List ByteArray)) (v : ByteArray) (r : Int) : Prop :=
 Zk Tryz.prog 123 [.c none (.sl (s.map c_S)), .c none (.v (.string v))] [] (fun d b => d = .c none (.v (.int .i64 r)) ∧ b = [])
theorem ZkM (s : (List ByteArray)) (v : ByteArray) (r : Int) (hF : ZcJ s v = some r) : ZcJ.M s v r := by
 unfold ZcJ at hF
 unfold ZcJ.M
 refine en Tryz.func123 ?_
 refine AWP.seq ?_
 refine ns ?_
 refine AWP.seq ?_
 refine AWP.seq ?_
 refine ns ?_
 intro hlen1
 (try rw [List.length_map] at hlen1)
 (try rw [List.length_map])
 refine st ?_
 refine AWP.block ?_
 refine AWP.loop ?_
 refine AWL.weak (rn []) ?_ (Zjg s v 0 s _ hF ([]) rfl rfl hlen1)
 exact (WS.mk (tc (tc (tc (tc Zc)))) Zb)

def Zaj (s : (List ByteArray)) (v : ByteArray) : Option (Bool) :=
 ZcJ s v >>= fun r1 =>
 some (decide (r1 ≥ 0))
def Zaj.M (s : (List ByteArray)) (v : ByteArray) (r : Bool) : Prop :=
 Zk Tryz.prog 97 [.c none (.sl (s.map c_S)), .c none (.v (.string v))] [] (fun d b => d = .c none (.v (.bool r)) ∧ b = [])
theorem Zee (s : (List ByteArray)) (v : ByteArray) (r : Bool) (hF : Zaj s v = some r) : Zaj.M s v r := by
 unfold Zaj at hF
 unfold Zaj.M
 refine en Tryz.func97 ?_
 refine AWP.seq ?_
 refine ns ?_
 refine AWP.seq ?_
 obtain ⟨r1, hr1, hF⟩ := bind_some hF
 refine ns ?_
 refine e3 ?_
 refine st ?_
 refine cm (Zk.weak (rn []) (ZkM s v _ hr1) rfl (WS.mk (tc (tc Zc)) Zb)) ?_
 refine st ?_
 obtain rfl := Zg hF
 refine ns ?_
 refine Exists.intro [] ?_
 refine st ?_
 exact wx (WS.mk (tc Zc) Zb)

mutual
def ZcK (l : (List ByteArray)) (Z2 : (List ByteArray)) (t : Za) : Option ((List ByteArray)) :=
 if (t.fOp == 1) = true then
 Zaj Z2 t.fName >>= fun r27 =>
 (if (!r27) = true then Zaj l t.fName >>= fun r28 =>
 some (!r28) else some false) >>= fun c29 =>
 if c29 = true then
 ZK ((l.length + ([t.fName]).length) * 16 ≤ 140737488355328) >>= fun _ =>
 ZbB (l ++ ([t.fName])) Z2 t
 else
 ZbB l Z2 t
 else
 if (t.fOp == 4) = true then
 Zdb Z2 >>= fun r36 =>
 ZK ((r36.length + ([t.fName]).length) * 16 ≤ 140737488355328) >>= fun _ =>
 ZbB l (r36 ++ ([t.fName])) t
 else
 ZbB l Z2 t
 partial_fixpoint
def ZbB (l_0 : (List ByteArray)) (ZR : (List ByteArray)) (t : Za) : Option ((List ByteArray)) :=
 ZbA l_0 ZR t 0 t.fKids
 partial_fixpoint
def ZbA (l_0 : (List ByteArray)) (ZR : (List ByteArray)) (t : Za) (ZmU : Nat) (Zkf : (List Za)) : Option ((List ByteArray)) :=
 (match Zkf with
 | x22 :: ZvR =>
 ZcK l_0 ZR x22 >>= fun r25 =>
 ZbA r25 ZR t (ZmU + 1) ZvR
 | [] =>
 some l_0)
 partial_fixpoint
end
def ZcK.M (l : (List ByteArray)) (Z2 : (List ByteArray)) (t : Za) (r : (List ByteArray)) : Prop :=
 Zk Tryz.prog 96 [.c (some (0, 9)) (.sl (l.map c_S)), .c none (.sl (Z2.map c_S)), .agg [.v (.int .i64 t.fOp), .v (.string t.fName), .sl (t.fBound.fArgs.map Zi.cells), .sl (t.fKids.map Za.cells)]] [] (fun d b => d = .c (some (0, 9)) (.sl (r.map c_S)) ∧ b = [])
def ZbB.M (l_0 : (List ByteArray)) (ZR : (List ByteArray)) (t : Za) (r : (List ByteArray)) : Prop :=
 AWP Tryz.prog 51 (Code.sub (Zq Tryz.f96) [1, 1]) (Code.cont Tryz.prog 51 (Zq Tryz.f96) [1, 1] (ZbS tab Tryz.f96.results (ZbX (.c (some (0, 9)) (.sl (r.map c_S))) []))) ⟨[(0, .c (some (0, 9)) (.sl (l_0.map c_S))), (1, .c none (.sl (ZR.map c_S))), (5, .ptr 5 0)], [(5, [(none, .v (.int .i64 t.fOp)), (none, .v (.string t.fName)), (none, .sl (t.fBound.fArgs.map Zi.cells)), (none, .sl (t.fKids.map Za.cells))])]⟩
def ZbA.M (l_0 : (List ByteArray)) (ZR : (List ByteArray)) (t : Za) (ZmU : Nat) (Zkf : (List Za)) (r : (List ByteArray)) : Prop :=
 ∀ Zn9 : List Za, t.fKids = Zn9 ++ Zkf → ZmU = Zn9.length → t.fKids.length ≤ maxLen → AWL Tryz.prog 51 (Code.sub (Zq Tryz.f96) [1, 1, 0, 1, 0, 0]) (Code.cont Tryz.prog 51 (Zq Tryz.f96) [1, 1, 0, 1, 0] (ZbS tab Tryz.f96.results (ZbX (.c (some (0, 9)) (.sl (r.map c_S))) []))) ⟨[(0, .c (some (0, 9)) (.sl (l_0.map c_S))), (1, .c none (.sl (ZR.map c_S))), (39, .c none (.sl (t.fKids.map Za.cells))), (40, .c none (.v (.int .i64 ((t.fKids.length : Nat) : Int)))), (41, .c none (.v (.int .i64 ((ZmU : Nat) : Int))))], []⟩
theorem ZrH : (∀ (l : (List ByteArray)) (Z2 : (List ByteArray)) (t : Za), ∀ r, ZcK l Z2 t = some r → ZcK.M l Z2 t r) ∧ (∀ (l_0 : (List ByteArray)) (ZR : (List ByteArray)) (t : Za), ∀ r, ZbB l_0 ZR t = some r → ZbB.M l_0 ZR t r) ∧ (∀ (l_0 : (List ByteArray)) (ZR : (List ByteArray)) (t : Za) (ZmU : Nat) (Zkf : (List Za)), ∀ r, ZbA l_0 ZR t ZmU Zkf = some r → ZbA.M l_0 ZR t ZmU Zkf r) := by
 refine ZcK.mutual_partial_correctness ZcK.M ZbB.M ZbA.M ?_ ?_ ?_
 ·intro types_free_k1' ZfJ l Z2 t r hF
  unfold ZcK.M
  refine en Tryz.func96 ?_
  refine AWP.seq ?_
  refine ns ?_
  refine AWP.seq ?_
  refine AWP.seq ?_
  refine ns ?_
  refine AWP.block ?_
  refine AWP.seq ?_
  refine ns ?_
  refine nw ?_
  refine Zj hF (fun Zk3 hF => ?_) (fun Zk3 hF => ?_)
  ·refine AWP.seq ?_
   obtain ⟨r27, ZGc, hF⟩ := bind_some hF
   obtain ⟨c29, ZnO, hF⟩ := bind_some hF
   refine AWP.cutN (fun T => ∃ r, WS r T ⟨[(0, .c (some (0, 9)) (.sl (l.map c_S))), (1, .c none (.sl (Z2.map c_S))), (5, .ptr 5 0), (24, .c none (.v (.bool c29)))], [(5, [(none, .v (.int .i64 t.fOp)), (none, .v (.string t.fName)), (none, .sl (t.fBound.fArgs.map Zi.cells)), (none, .sl (t.fKids.map Za.cells))])]⟩) ?_ (fun T hw => ?_)
   ·refine ns ?_
    refine e3 ?_
    refine st ?_
    refine cm (Zk.weak (rn []) (Zee Z2 t.fName _ ZGc) rfl (WS.mk (tc (tc Zc)) Zb)) ?_
    refine st ?_
    refine Zl true (fun Zpg => ?_) (fun Zpg => ?_)
    ·have ZnO := ift Zpg ZnO
     obtain ⟨r28, ZCG, ZnO⟩ := bind_some ZnO
     (conv => whnf)
     refine st ?_
     refine Exists.intro [0] (Exists.intro [] (Exists.intro [] ?_))
     refine st ?_
     refine cm (Zk.weak (rn []) (Zee l t.fName _ ZCG) rfl (WS.mk (tc (tc Zc)) Zb)) ?_
     refine st ?_
     obtain rfl := Zg ZnO
     refine st ?_
     exact Exists.intro (rn [(0, 0)]) (WS.mk (Zd (Zay rfl (WE.refl _)) (tc (tp (Zd (Zs (web Zpg)) Zc)))) (Zf rfl (cc (cc (cc (cc Zh)))) Zb))
    ·have ZnO := ife Zpg ZnO
     (conv => whnf)
     obtain rfl := Zg ZnO
     refine st ?_
     exact Exists.intro (rn [(0, 0)]) (WS.mk (Zd (Zay rfl (WE.refl _)) (tc (tp (Zd (Zs (web Zpg)) Zc)))) (Zf rfl (cc (cc (cc (cc Zh)))) Zb))
   obtain ⟨r0, hw⟩ := hw
   (conv => whnf)
   refine AWP.weak r0 hw ?_
   refine nw ?_
   refine Zj hF (fun Zzx hF => ?_) (fun Zzx hF => ?_)
   ·obtain ⟨ZDv, hF⟩ := Zy hF
    refine ns ?_
    refine Exists.intro _ (And.intro (Zcm (f := c_S) (lc Zo) (Zaw (f := c_S))) ?_)
    refine sa (fun l => ZbW l (fun x => Zfg x)) ZDv ?_
    refine Exists.intro _ (And.intro (WE.refl _) ?_)
    rw [← List.map_append]
    refine st ?_
    refine AWP.weak (rn [(29, 0)]) ?_ (ZfJ (l ++ ([t.fName])) Z2 t _ hF)
    exact (WS.mk (Zd (Zay rfl (WE.refl _)) (tc (tp Zc))) (Zf rfl (cc (cc (cc (cc Zh)))) Zb))
   ·refine nw ?_
    refine AWP.weak (rn [(0, 0)]) ?_ (ZfJ l Z2 t _ hF)
    exact (WS.mk (Zd (Zay rfl (WE.refl _)) (tc (tp Zc))) (Zf rfl (cc (cc (cc (cc Zh)))) Zb))
  ·refine AWP.seq ?_
   refine ns ?_
   refine nw ?_
   refine Zj hF (fun ZoT hF => ?_) (fun ZoT hF => ?_)
   ·obtain ⟨r36, ZHP, hF⟩ := bind_some hF
    obtain ⟨ZGT, hF⟩ := Zy hF
    refine nn ?_
    refine Or.inl (Or.inr (Exists.intro [2, 3, 4] (Exists.intro [[34, 35, 36], [35, 36], [36]] (Exists.intro [5] (Exists.intro [5, 34, 35, 36] (Exists.intro [34, 35, 36] (Exists.intro [0, 1, 5, 6] (And.intro (by decide +kernel) ?_))))))))
    refine dp ?_
    refine dp ?_
    refine de (Zcm (f := c_S) (lc Zo) (Zaw (f := c_S))) ?_
    refine st ?_
    refine e3 ?_
    refine st ?_
    refine cm (Zk.weak (rn []) (Zkg Z2 _ ZHP) rfl (WS.mk (tc Zc) Zb)) ?_
    refine st ?_
    refine sa (fun l => ZbW l (fun x => Zfg x)) ZGT ?_
    refine Exists.intro _ (And.intro (WE.refl _) ?_)
    rw [← List.map_append]
    refine st ?_
    refine AWP.weak (rn [(0, 0)]) ?_ (ZfJ l (r36 ++ ([t.fName])) t _ hF)
    exact (WS.mk (Zd (Zay rfl (WE.refl _)) (tc (tp Zc))) (Zf rfl (cc (cc (cc (cc Zh)))) Zb))
   ·refine nw ?_
    refine AWP.weak (rn [(0, 0)]) ?_ (ZfJ l Z2 t _ hF)
    exact (WS.mk (Zd (Zay rfl (WE.refl _)) (tc (tp Zc))) (Zf rfl (cc (cc (cc (cc Zh)))) Zb))
 ·intro types_free_l2' ZhK l_0 ZR t r hF
  unfold ZbB.M
  refine AWP.seq ?_
  refine AWP.seq ?_
  refine ns ?_
  intro hlen12
  (try rw [List.length_map] at hlen12)
  (try rw [List.length_map])
  refine st ?_
  refine AWP.block ?_
  refine AWP.loop ?_
  refine AWL.weak (rn [(0, 0)]) ?_ (ZhK l_0 ZR t 0 t.fKids _ hF ([]) rfl rfl hlen12)
  exact (WS.mk (Zd (Zay rfl (WE.refl _)) (tc (tc (tc (tc Zc))))) Zb)
 ·intro types_free' types_free_l2' ZrI ZhK l_0 ZR t ZmU Zkf r hF
  unfold ZbA.M
  intro Zn9 ZwM Zwb hlen12
  refine AWL.step ?_
  refine AWP.seq ?_
  refine ns ?_
  refine AWP.seq ?_
  refine nw ?_
  refine ZS ZwM Zwb (fun x22 ZvR Zvy ZBr ZCI => ?_) (fun Zvy => ?_)
  ·subst Zvy
   refine nw ?_
   refine AWP.seq ?_
   refine AWP.block ?_
   refine AWP.seq ?_
   refine nn ?_
   refine sr (Zau (f := Za.cells) (Za.cells_eq x22) ZBr) ?_
   refine st ?_
   obtain ⟨r25, ZCs, hF⟩ := bind_some hF
   refine ns ?_
   refine e3 ?_
   refine st ?_
   refine cm (Zk.weak (rn [(0, 0)]) (ZrI l_0 ZR x22 _ ZCs) rfl (WS.mk (Zd (Zay rfl (WE.refl _)) (tc (Zd (Zt (lc (lc (lc (lc Zo))))) Zc))) Zb)) ?_
   refine st ?_
   refine ns ?_
   refine AWL.weak (rn [(48, 0)]) ?_ (ZhK r25 ZR t (ZmU + 1) ZvR _ hF (Zn9 ++ [x22]) (by rw [ZwM]; simp) (by rw [Zwb]; simp) hlen12)
   exact (WS.mk (Zd (Zay rfl (WE.refl _)) (tc (tc (tc (Zd (Zs (Zdd (ZZ hlen12 ZCI))) Zc))))) Zb)
  ·subst Zvy
   refine nw ?_
   refine AWP.seq ?_
   refine ns ?_
   obtain rfl := Zg hF
   refine ns ?_
   refine Exists.intro [] ?_
   refine st ?_
   exact Exists.intro (rn [(0, 0)]) (WS.mk (Zd (Zay rfl (WE.refl _)) Zc) Zb)
theorem ZjI : ∀ (l : (List ByteArray)) (Z2 : (List ByteArray)) (t : Za), ∀ r, ZcK l Z2 t = some r → ZcK.M l Z2 t r := ZrH.1

def Zes (t : Za) : Option ((List ByteArray)) :=
 ZbT t >>= fun r3 =>
 if (r3 != 0) = true then
 some ([] : List ByteArray)
 else
 ZcK ([] : List ByteArray) ([] : List ByteArray) t >>= fun r5 =>
 some r5
def Zes.M (t : Za) (r : (List ByteArray)) : Prop :=
 Zk Tryz.prog 105 [.agg [.v (.int .i64 t.fOp), .v (.string t.fName), .sl (t.fBound.fArgs.map Zi.cells), .sl (t.fKids.map Za.cells)]] [] (fun d b => d = .c (some (0, 9)) (.sl (r.map c_S)) ∧ b = [])
theorem Zm0 (t : Za) (r : (List ByteArray)) (hF : Zes t = some r) : Zes.M t r := by
 unfold Zes at hF
 unfold Zes.M
 refine en Tryz.func105 ?_
 refine AWP.seq ?_
 refine ns ?_
 refine AWP.seq ?_
 refine AWP.seq ?_
 obtain ⟨r3, hr3, hF⟩ := bind_some hF
 refine ns ?_
 refine e3 ?_
 refine st ?_
 refine cm (Zk.weak (rn []) (ZeF t _ hr3) rfl (WS.mk (Zd (Zt (lc (lc (lc (lc Zo))))) Zc) Zb)) ?_
 refine st ?_
 refine nw ?_
 refine Zj hF (fun hc4 hF => ?_) (fun hc4 hF => ?_)
 ·refine AWP.seq ?_
  refine ns ?_
  obtain rfl := Zg hF
  refine ns ?_
  refine Exists.intro [] ?_
  refine st ?_
  exact wx (WS.mk (Zd ZkZ Zc) Zb)
 ·refine nw ?_
  refine AWP.seq ?_
  obtain ⟨r5, hr5, hF⟩ := bind_some hF
  refine ns ?_
  refine e3 ?_
  refine st ?_
  refine cm (Zk.weak (rn []) (ZjI ([] : List ByteArray) ([] : List ByteArray) t _ hr5) rfl (WS.mk (Zd ZkZ (Zd (Zs WE.nil) (Zd (Zt (lc (lc (lc (lc Zo))))) Zc))) Zb)) ?_
  refine st ?_
  obtain rfl := Zg hF
  refine ns ?_
  refine Exists.intro [] ?_
  refine st ?_
  exact Exists.intro (rn [(7, 0)]) (WS.mk (Zd (Zay rfl (WE.refl _)) Zc) Zb)

def Zar (v : ByteArray) (r1 : ((List ByteArray))) (Znl : Nat) (s : Zr) (Zgl : (List ByteArray)) : Option (Bool) :=
 (match Zgl with
 | x26 :: ZDb =>
 if (x26.toList == v.toList) = true then
 some true
 else
 Zeh s.fat 0 x26 >>= fun r31 =>
 (if r31.2 = true then (ixI s.flist r31.1) >>= fun x32 =>
 Zes x32.fType >>= fun r33 =>
 Zaj r33 v >>= fun r34 =>
 some r34 else some false) >>= fun c35 =>
 if c35 = true then
 some true
 else
 Zar v r1 (Znl + 1) s ZDb
 | [] =>
 some false)
 partial_fixpoint
def Zar.M (v : ByteArray) (r1 : ((List ByteArray))) (Znl : Nat) (s : Zr) (Zgl : (List ByteArray)) (r : Bool) : Prop :=
 ∀ Zos : List ByteArray, r1 = Zos ++ Zgl → Znl = Zos.length → r1.length ≤ maxLen → AWL Tryz.prog 45 (Code.sub (Zq Tryz.f80) [1, 0, 1, 0, 0]) (Code.cont Tryz.prog 45 (Zq Tryz.f80) [1, 0, 1, 0] (ZbS tab Tryz.f80.results (ZbX (.c none (.v (.bool r))) [(1000, [(none, .rs 1001 s.flist.length), (none, .rf 1002)]), (1001, [(none, .ob 90 (s.flist.map Ze.cells))]), (1002, [(none, .ob 109 (s.fat.map (ZdK c_S Zb6)))])]))) ⟨[(0, .ptr 1000 0), (1, .c none (.v (.string v))), (12, .c (some (12, 9)) (.sl (r1.map c_S))), (13, .c none (.v (.int .i64 ((r1.length : Nat) : Int)))), (14, .c none (.v (.int .i64 ((Znl : Nat) : Int))))], [(1000, [(none, .rs 1001 s.flist.length), (none, .rf 1002)]), (1001, [(none, .ob 90 (s.flist.map Ze.cells))]), (1002, [(none, .ob 109 (s.fat.map (ZdK c_S Zb6)))])]⟩
theorem Zi9 (v : ByteArray) (r1 : ((List ByteArray))) (Znl : Nat) (s : Zr) (Zgl : (List ByteArray)) : ∀ r, Zar v r1 Znl s Zgl = some r → Zar.M v r1 Znl s Zgl r := by
 refine Zar.partial_correctness v r1 s (fun Znl Zgl r => Zar.M v r1 Znl s Zgl r) ?_ Znl Zgl
 intro unify_solver_occurs_l1' Zfp Znl Zgl r hF
 have Zjf := fun (_v : ByteArray) (_r1 : ((List ByteArray))) (Znl : Nat) (_s : Zr) (Zgl : (List ByteArray)) => Zfp Znl Zgl
 clear Zfp
 unfold Zar.M
 intro Zos Zwt Zv7 hlen2
 refine AWL.step ?_
 refine AWP.seq ?_
 refine ns ?_
 refine AWP.seq ?_
 refine nw ?_
 refine ZS Zwt Zv7 (fun x26 ZDb ZC3 ZGn ZGB => ?_) (fun ZC3 => ?_)
 ·subst ZC3
  refine nw ?_
  refine AWP.seq ?_
  refine AWP.block ?_
  refine AWP.seq ?_
  refine nn ?_
  refine sr (Zau (f := c_S) rfl ZGn) ?_
  refine st ?_
  refine AWP.seq ?_
  refine AWP.seq ?_
  refine ns ?_
  refine nw ?_
  refine Zj hF (fun Zpg hF => ?_) (fun Zpg hF => ?_)
  ·refine AWP.seq ?_
   refine ns ?_
   obtain rfl := Zg hF
   refine ns ?_
   refine Exists.intro [(1000, 1000), (1001, 1001), (1002, 1002)] ?_
   refine st ?_
   exact wx (WS.mk (tc Zc) (Zf rfl (Zew (ZaH (by first | exact rfl | simp only [List.length_set])) (cc Zh)) (Zf rfl (cc Zh) (Zf rfl (cc Zh) Zb))))
  ·refine nw ?_
   refine AWP.seq ?_
   obtain ⟨r31, ZCc, hF⟩ := bind_some hF
   refine ns ?_
   refine Zhd (m := s.fat) (k := x26) ZgW (ev := Zb6) ZCc rfl (fun x => Zl2 x) rfl rfl (lc Zo) ?_
   refine st ?_
   refine AWP.seq ?_
   obtain ⟨c35, ZmF, hF⟩ := bind_some hF
   refine AWP.cutN (fun T => ∃ r, WS r T ⟨[(0, .ptr 1000 0), (1, .c none (.v (.string v))), (12, .c (some (12, 9)) (.sl (r1.map c_S))), (13, .c none (.v (.int .i64 ((r1.length : Nat) : Int)))), (14, .c none (.v (.int .i64 ((Znl : Nat) : Int)))), (43, .c none (.v (.bool c35)))], [(1000, [(none, .rs 1001 s.flist.length), (none, .rf 1002)]), (1001, [(none, .ob 90 (s.flist.map Ze.cells))]), (1002, [(none, .ob 109 (s.fat.map (ZdK c_S Zb6)))])]⟩) ?_ (fun T hw => ?_)
   ·refine ns ?_
    refine Zl true (fun ZjL => ?_) (fun ZjL => ?_)
    ·have ZmF := ift ZjL ZmF
     obtain ⟨x32, ZF2, ZE0, ZmF⟩ := Zej ZmF
     obtain ⟨r33, ZHE, ZmF⟩ := bind_some ZmF
     obtain ⟨r34, ZDe, ZmF⟩ := bind_some ZmF
     (conv => whnf)
     refine st ?_
     refine And.intro (Ztj ZF2 ZE0) ?_
     refine st ?_
     refine sr (Zdx (f := Ze.cells) (Ze.cells_eq x32) ZE0) ?_
     refine st ?_
     refine e3 ?_
     refine st ?_
     refine cm (Zk.weak (rn []) (Zm0 x32.fType _ ZHE) rfl (WS.mk (Zd (Zt (lc (lc (lc (lc Zo))))) Zc) Zb)) ?_
     refine st ?_
     refine Exists.intro [40] (Exists.intro [] (Exists.intro [] ?_))
     refine st ?_
     refine cm (Zk.weak (rn []) (Zee r33 v _ ZDe) rfl (WS.mk (tc (tc Zc)) Zb)) ?_
     refine st ?_
     obtain rfl := Zg ZmF
     refine st ?_
     exact Exists.intro (rn [(12, 12)]) (WS.mk (tp (tc (Zd (Zay rfl (WE.refl _)) (tc (tc (Zd (Zs (web ZjL)) Zc)))))) (Zf rfl (Zew (ZaH (by first | exact rfl | simp only [List.length_set])) (cc Zh)) (Zf rfl (cc Zh) (Zf rfl (cc Zh) Zb))))
    ·have ZmF := ife ZjL ZmF
     (conv => whnf)
     obtain rfl := Zg ZmF
     refine st ?_
     exact Exists.intro (rn [(12, 12)]) (WS.mk (tp (tc (Zd (Zay rfl (WE.refl _)) (tc (tc (Zd (Zs (web ZjL)) Zc)))))) (Zf rfl (Zew (ZaH (by first | exact rfl | simp only [List.length_set])) (cc Zh)) (Zf rfl (cc Zh) (Zf rfl (cc Zh) Zb))))
   obtain ⟨r0, hw⟩ := hw
   (conv => whnf)
   refine AWP.weak r0 hw ?_
   refine nw ?_
   refine Zj hF (fun Zpe hF => ?_) (fun Zpe hF => ?_)
   ·refine AWP.seq ?_
    refine ns ?_
    obtain rfl := Zg hF
    refine ns ?_
    refine Exists.intro [(1000, 1000), (1001, 1001), (1002, 1002)] ?_
    refine st ?_
    exact wx (WS.mk (tc Zc) (Zf rfl (Zew (ZaH (by first | exact rfl | simp only [List.length_set])) (cc Zh)) (Zf rfl (cc Zh) (Zf rfl (cc Zh) Zb))))
   ·refine nw ?_
    refine ns ?_
    refine AWL.weak (rn [(12, 12)]) ?_ (Zjf v r1 (Znl + 1) s ZDb _ hF (Zos ++ [x26]) (by rw [Zwt]; simp) (by rw [Zv7]; simp) hlen2)
    exact (WS.mk (tp (tc (Zd (Zay rfl (WE.refl _)) (tc (Zd (Zs (Zdd (ZZ hlen2 ZGB))) Zc))))) (Zf rfl (Zew (ZaH (by first | exact rfl | simp only [List.length_set])) (cc Zh)) (Zf rfl (cc Zh) (Zf rfl (cc Zh) Zb))))
 ·subst ZC3
  refine nw ?_
  refine AWP.seq ?_
  refine ns ?_
  obtain rfl := Zg hF
  refine ns ?_
  refine Exists.intro [(1000, 1000), (1001, 1001), (1002, 1002)] ?_
  refine st ?_
  exact wx (WS.mk (tc Zc) (Zf rfl (Zew (ZaH (by first | exact rfl | simp only [List.length_set])) (cc Zh)) (Zf rfl (cc Zh) (Zf rfl (cc Zh) Zb))))

def Zcd (s : Zr) (v : ByteArray) (t : Za) : Option (Bool) :=
 Zes t >>= fun r1 =>
 Zar v r1 0 s r1
def Zcd.M (s : Zr) (v : ByteArray) (t : Za) (r : Bool) : Prop :=
 Zk Tryz.prog 80 [.ptr 1000 0, .c none (.v (.string v)), .agg [.v (.int .i64 t.fOp), .v (.string t.fName), .sl (t.fBound.fArgs.map Zi.cells), .sl (t.fKids.map Za.cells)]] [(1000, [(none, .rs 1001 s.flist.length), (none, .rf 1002)]), (1001, [(none, .ob 90 (s.flist.map Ze.cells))]), (1002, [(none, .ob 109 (s.fat.map (ZdK c_S Zb6)))])] (fun d b => d = .c none (.v (.bool r)) ∧ b = [(1000, [(none, .rs 1001 s.flist.length), (none, .rf 1002)]), (1001, [(none, .ob 90 (s.flist.map Ze.cells))]), (1002, [(none, .ob 109 (s.fat.map (ZdK c_S Zb6)))])])
theorem ZkH (s : Zr) (v : ByteArray) (t : Za) (r : Bool) (hF : Zcd s v t = some r) : Zcd.M s v t r := by
 unfold Zcd at hF
 unfold Zcd.M
 refine en Tryz.func80 ?_
 refine AWP.seq ?_
 refine ns ?_
 refine AWP.seq ?_
 refine AWP.seq ?_
 obtain ⟨r1, hr1, hF⟩ := bind_some hF
 refine ns ?_
 refine e3 ?_
 refine st ?_
 refine cm (Zk.weak (rn []) (Zm0 t _ hr1) rfl (WS.mk (Zd (Zt (lc (lc (lc (lc Zo))))) Zc) Zb)) ?_
 refine st ?_
 intro hlen2
 (try rw [List.length_map] at hlen2)
 (try rw [List.length_map])
 refine st ?_
 refine AWP.block ?_
 refine AWP.loop ?_
 refine AWL.weak (rn [(12, 12)]) ?_ (Zi9 v r1 0 s r1 _ hF ([]) rfl rfl hlen2)
 exact (WS.mk (tp (tc (Zd (Zay rfl (WE.refl _)) (tc (tc Zc))))) (Zf rfl (Zew (ZaH (by first | exact rfl | simp only [List.length_set])) (cc Zh)) (Zf rfl (cc Zh) (Zf rfl (cc Zh) Zb))))

mutual
def ZaQ (s : (List Ze)) (name_ : ByteArray) (t : Za) : Option (Bool) :=
 if (t.fOp == 1) = true then
 Zdh s t.fName >>= fun r15 =>
 if (decide (r15 ≥ 0)) = true then
 (ixI s r15) >>= fun x17 =>
 ZaQ ([] : List Ze) name_ x17.fType >>= fun r18 =>
 some r18
 else
 some (t.fName.toList == name_.toList)
 else
 Z3 s name_ 0 t t.fKids
 partial_fixpoint
def Z3 (s : (List Ze)) (name_ : ByteArray) (i_8 : Nat) (t : Za) (ZiP : (List Za)) : Option (Bool) :=
 (match ZiP with
 | x36 :: ZHv =>
 ZaQ s name_ x36 >>= fun r39 =>
 if r39 = true then
 some true
 else
 Z3 s name_ (i_8 + 1) t ZHv
 | [] =>
 some false)
 partial_fixpoint
end
def ZaQ.M (s : (List Ze)) (name_ : ByteArray) (t : Za) (r : Bool) : Prop :=
 Zk Tryz.prog 55 [.c none (.sl (s.map Ze.cells)), .c none (.v (.string name_)), .agg [.v (.int .i64 t.fOp), .v (.string t.fName), .sl (t.fBound.fArgs.map Zi.cells), .sl (t.fKids.map Za.cells)]] [] (fun d b => d = .c none (.v (.bool r)) ∧ b = [])
def Z3.M (s : (List Ze)) (name_ : ByteArray) (i_8 : Nat) (t : Za) (ZiP : (List Za)) (r : Bool) : Prop :=
 ∀ Zki : List Za, t.fKids = Zki ++ ZiP → i_8 = Zki.length → AWL Tryz.prog 44 (Code.sub (Zq Tryz.f55) [1, 1, 0, 1, 0, 0]) (Code.cont Tryz.prog 44 (Zq Tryz.f55) [1, 1, 0, 1, 0] (ZbS tab Tryz.f55.results (ZbX (.c none (.v (.bool r))) []))) ⟨[(0, .c none (.sl (s.map Ze.cells))), (1, .c none (.v (.string name_))), (5, .ptr 5 0), (8, .c none (.v (.int .i64 ((i_8 : Nat) : Int))))], [(5, [(none, .v (.int .i64 t.fOp)), (none, .v (.string t.fName)), (none, .sl (t.fBound.fArgs.map Zi.cells)), (none, .sl (t.fKids.map Za.cells))])]⟩

def Zbt (l : (List ByteArray)) (s : ByteArray) (i_5 : Nat) (Zce : (List ByteArray)) : Option (Bool) :=
 (match Zce with
 | x16 :: Zib =>
 if (x16.toList == s.toList) = true then
 some true
 else
 Zbt l s (i_5 + 1) Zib
 | [] =>
 some false)
 partial_fixpoint
def Zbt.M (l : (List ByteArray)) (s : ByteArray) (i_5 : Nat) (Zce : (List ByteArray)) (r : Bool) : Prop :=
 ∀ Zen : List ByteArray, l = Zen ++ Zce → i_5 = Zen.length → AWL Tryz.prog 18 (Code.sub (Zq Tryz.f60) [1, 0, 1, 0, 0]) (Code.cont Tryz.prog 18 (Zq Tryz.f60) [1, 0, 1, 0] (ZbS tab Tryz.f60.results (ZbX (.c none (.v (.bool r))) []))) ⟨[(0, .c none (.sl (l.map c_S))), (1, .c none (.v (.string s))), (5, .c none (.v (.int .i64 ((i_5 : Nat) : Int))))], []⟩
theorem Zlz (l : (List ByteArray)) (s : ByteArray) (i_5 : Nat) (Zce : (List ByteArray)) : ∀ r, Zbt l s i_5 Zce = some r → Zbt.M l s i_5 Zce r := by
 refine Zbt.partial_correctness l s (fun i_5 Zce r => Zbt.M l s i_5 Zce r) ?_ i_5 Zce
 intro lazycref01_Has_l1' Zhq i_5 Zce r hF
 have ZlS := fun (_l : (List ByteArray)) (_s : ByteArray) (i_5 : Nat) (Zce : (List ByteArray)) => Zhq i_5 Zce
 clear Zhq
 unfold Zbt.M
 intro Zen ZlP Zls
 refine AWL.step ?_
 refine AWP.seq ?_
 refine AWP.seq ?_
 refine ns ?_
 intro hlen15
 (try rw [List.length_map] at hlen15)
 (try rw [List.length_map])
 refine st ?_
 refine nw ?_
 refine ZS ZlP Zls (fun x16 Zib ZiX Zqu Zrv => ?_) (fun ZiX => ?_)
 ·subst ZiX
  refine nw ?_
  refine AWP.seq ?_
  refine AWP.block ?_
  refine AWP.seq ?_
  refine nn ?_
  refine sr (Zau (f := c_S) rfl Zqu) ?_
  refine st ?_
  refine nw ?_
  refine Zj hF (fun ZnB hF => ?_) (fun ZnB hF => ?_)
  ·refine AWP.seq ?_
   refine ns ?_
   obtain rfl := Zg hF
   refine ns ?_
   refine Exists.intro [] ?_
   refine st ?_
   exact wx (WS.mk (tc Zc) Zb)
  ·refine nw ?_
   refine ns ?_
   refine AWL.weak (rn []) ?_ (ZlS l s (i_5 + 1) Zib _ hF (Zen ++ [x16]) (by rw [ZlP]; simp) (by rw [Zls]; simp))
   exact (WS.mk (tc (tc (Zd (Zs (Zdd (ZZ hlen15 Zrv))) Zc))) Zb)
 ·subst ZiX
  refine nw ?_
  refine AWP.seq ?_
  refine ns ?_
  obtain rfl := Zg hF
  refine ns ?_
  refine Exists.intro [] ?_
  refine st ?_
  exact wx (WS.mk (tc Zc) Zb)

def Za0 (l : (List ByteArray)) (s : ByteArray) : Option (Bool) :=
 Zbt l s 0 l
def Za0.M (l : (List ByteArray)) (s : ByteArray) (r : Bool) : Prop :=
 Zk Tryz.prog 60 [.c none (.sl (l.map c_S)), .c none (.v (.string s))] [] (fun d b => d = .c none (.v (.bool r)) ∧ b = [])
theorem Zep (l : (List ByteArray)) (s : ByteArray) (r : Bool) (hF : Za0 l s = some r) : Za0.M l s r := by
 unfold Za0 at hF
 unfold Za0.M
 refine en Tryz.func60 ?_
 refine AWP.seq ?_
 refine ns ?_
 refine AWP.seq ?_
 refine AWP.seq ?_
 refine ns ?_
 refine AWP.block ?_
 refine AWP.loop ?_
 refine AWL.weak (rn []) ?_ (Zlz l s 0 l _ hF ([]) rfl rfl)
 exact (WS.mk (tc (tc (tc Zc))) Zb)

def Zcr (l : (List ByteArray)) (s : ByteArray) : Option ((List ByteArray)) :=
 Za0 l s >>= fun r3 =>
 if r3 = true then
 some l
 else
 ZK ((l.length + ([s]).length) * 16 ≤ 140737488355328) >>= fun _ =>
 some (l ++ ([s]))
def Zcr.M (l : (List ByteArray)) (s : ByteArray) (r : (List ByteArray)) : Prop :=
 Zk Tryz.prog 67 [.c (some (0, 9)) (.sl (l.map c_S)), .c none (.v (.string s))] [] (fun d b => d = .c (some (0, 9)) (.sl (r.map c_S)) ∧ b = [])
theorem Zln (l : (List ByteArray)) (s : ByteArray) (r : (List ByteArray)) (hF : Zcr l s = some r) : Zcr.M l s r := by
 unfold Zcr at hF
 unfold Zcr.M
 refine en Tryz.func67 ?_
 refine AWP.seq ?_
 refine ns ?_
 refine AWP.seq ?_
 refine AWP.seq ?_
 obtain ⟨r3, hr3, hF⟩ := bind_some hF
 refine ns ?_
 refine Exists.intro [0] (Exists.intro [] (Exists.intro [] ?_))
 refine st ?_
 refine cm (Zk.weak (rn []) (Zep l s _ hr3) rfl (WS.mk (tc (tc Zc)) Zb)) ?_
 refine st ?_
 refine nw ?_
 refine Zj hF (fun hc4 hF => ?_) (fun hc4 hF => ?_)
 ·refine AWP.seq ?_
  refine ns ?_
  obtain rfl := Zg hF
  refine ns ?_
  refine Exists.intro [] ?_
  refine st ?_
  exact Exists.intro (rn [(0, 0)]) (WS.mk (Zd (Zay rfl (WE.refl _)) Zc) Zb)
 ·refine nw ?_
  refine AWP.seq ?_
  obtain ⟨hg5, hF⟩ := Zy hF
  refine ns ?_
  refine Exists.intro _ (And.intro (Zcm (f := c_S) (lc Zo) (Zaw (f := c_S))) ?_)
  refine sa (fun l => ZbW l (fun x => Zfg x)) hg5 ?_
  refine Exists.intro _ (And.intro (WE.refl _) ?_)
  rw [← List.map_append]
  refine st ?_
  obtain rfl := Zg hF
  refine ns ?_
  refine Exists.intro [] ?_
  refine st ?_
  exact Exists.intro (rn [(12, 0)]) (WS.mk (Zd (Zay rfl (WE.refl _)) Zc) Zb)

mutual
def Zac (out : (List ByteArray)) (Z2 : (List ByteArray)) (t : Za) : Option ((List ByteArray)) :=
 (if (t.fOp == 1) = true then Za0 Z2 t.fName >>= fun r5 =>
 some (!r5) else some false) >>= fun c6 =>
 if c6 = true then
 Zcr out t.fName >>= fun r9 =>
 some r9
 else
 if (t.fOp == 4) = true then
 ZK ((0 + Z2.length) * 16 ≤ 140737488355328) >>= fun _ =>
 ZK ((Z2.length + ([t.fName]).length) * 16 ≤ 140737488355328) >>= fun _ =>
 ZaB out (Z2 ++ ([t.fName])) t
 else
 ZaB out Z2 t
 partial_fixpoint
def ZaB (out : (List ByteArray)) (ZR : (List ByteArray)) (t : Za) : Option ((List ByteArray)) :=
 ZaS out ZR 0 t t.fKids
 partial_fixpoint
def ZaS (ZnS : (List ByteArray)) (ZR : (List ByteArray)) (i_8 : Nat) (t : Za) (ZiP : (List Za)) : Option ((List ByteArray)) :=
 (match ZiP with
 | x28 :: ZCW =>
 Zac ZnS ZR x28 >>= fun r31 =>
 ZaS r31 ZR (i_8 + 1) t ZCW
 | [] =>
 some ZnS)
 partial_fixpoint
end
def Zac.M (out : (List ByteArray)) (Z2 : (List ByteArray)) (t : Za) (r : (List ByteArray)) : Prop :=
 Zk Tryz.prog 41 [.c (some (0, 9)) (.sl (out.map c_S)), .c none (.sl (Z2.map c_S)), .agg [.v (.int .i64 t.fOp), .v (.string t.fName), .sl (t.fBound.fArgs.map Zi.cells), .sl (t.fKids.map Za.cells)]] [] (fun d b => d = .c (some (0, 9)) (.sl (r.map c_S)) ∧ b = [])
def ZaB.M (out : (List ByteArray)) (ZR : (List ByteArray)) (t : Za) (r : (List ByteArray)) : Prop :=
 AWP Tryz.prog 51 (Code.sub (Zq Tryz.f41) [1, 1, 1]) (Code.cont Tryz.prog 51 (Zq Tryz.f41) [1, 1, 1] (ZbS tab Tryz.f41.results (ZbX (.c (some (0, 9)) (.sl (r.map c_S))) []))) ⟨[(0, .c (some (0, 9)) (.sl (out.map c_S))), (1, .c none (.sl (ZR.map c_S))), (5, .ptr 5 0)], [(5, [(none, .v (.int .i64 t.fOp)), (none, .v (.string t.fName)), (none, .sl (t.fBound.fArgs.map Zi.cells)), (none, .sl (t.fKids.map Za.cells))])]⟩
def ZaS.M (ZnS : (List ByteArray)) (ZR : (List ByteArray)) (i_8 : Nat) (t : Za) (ZiP : (List Za)) (r : (List ByteArray)) : Prop :=
 ∀ Zki : List Za, t.fKids = Zki ++ ZiP → i_8 = Zki.length → AWL Tryz.prog 51 (Code.sub (Zq Tryz.f41) [1, 1, 1, 0, 1, 0, 0]) (Code.cont Tryz.prog 51 (Zq Tryz.f41) [1, 1, 1, 0, 1, 0] (ZbS tab Tryz.f41.results (ZbX (.c (some (0, 9)) (.sl (r.map c_S))) []))) ⟨[(0, .c (some (0, 9)) (.sl (ZnS.map c_S))), (1, .c none (.sl (ZR.map c_S))), (5, .ptr 5 0), (8, .c none (.v (.int .i64 ((i_8 : Nat) : Int))))], [(5, [(none, .v (.int .i64 t.fOp)), (none, .v (.string t.fName)), (none, .sl (t.fBound.fArgs.map Zi.cells)), (none, .sl (t.fKids.map Za.cells))])]⟩
theorem ZkO : (∀ (out : (List ByteArray)) (Z2 : (List ByteArray)) (t : Za), ∀ r, Zac out Z2 t = some r → Zac.M out Z2 t r) ∧ (∀ (out : (List ByteArray)) (ZR : (List ByteArray)) (t : Za), ∀ r, ZaB out ZR t = some r → ZaB.M out ZR t r) ∧ (∀ (ZnS : (List ByteArray)) (ZR : (List ByteArray)) (i_8 : Nat) (t : Za) (ZiP : (List Za)), ∀ r, ZaS ZnS ZR i_8 t ZiP = some r → ZaS.M ZnS ZR i_8 t ZiP r) := by
 refine Zac.mutual_partial_correctness Zac.M ZaB.M ZaS.M ?_ ?_ ?_
 ·intro lazycref04_Collect_k1' Zgc out Z2 t r hF
  unfold Zac.M
  refine en Tryz.func41 ?_
  refine AWP.seq ?_
  refine ns ?_
  refine AWP.seq ?_
  refine AWP.seq ?_
  obtain ⟨c6, hc6, hF⟩ := bind_some hF
  refine AWP.cutN (fun T => ∃ r, WS r T ⟨[(0, .c (some (0, 9)) (.sl (out.map c_S))), (1, .c none (.sl (Z2.map c_S))), (5, .ptr 5 0), (18, .c none (.v (.bool c6)))], [(5, [(none, .v (.int .i64 t.fOp)), (none, .v (.string t.fName)), (none, .sl (t.fBound.fArgs.map Zi.cells)), (none, .sl (t.fKids.map Za.cells))])]⟩) ?_ (fun T hw => ?_)
  ·refine ns ?_
   refine Zl true (fun hc7 => ?_) (fun hc7 => ?_)
   ·have hc6 := ift hc7 hc6
    obtain ⟨r5, hr5, hc6⟩ := bind_some hc6
    (conv => whnf)
    refine st ?_
    refine e3 ?_
    refine st ?_
    refine cm (Zk.weak (rn []) (Zep Z2 t.fName _ hr5) rfl (WS.mk (tc (tc Zc)) Zb)) ?_
    refine st ?_
    obtain rfl := Zg hc6
    refine st ?_
    exact Exists.intro (rn [(0, 0)]) (WS.mk (Zd (Zay rfl (WE.refl _)) (tc (tp (Zd (Zs (web hc7)) Zc)))) (Zf rfl (cc (cc (cc (cc Zh)))) Zb))
   ·have hc6 := ife hc7 hc6
    (conv => whnf)
    obtain rfl := Zg hc6
    refine st ?_
    exact Exists.intro (rn [(0, 0)]) (WS.mk (Zd (Zay rfl (WE.refl _)) (tc (tp (Zd (Zs (web hc7)) Zc)))) (Zf rfl (cc (cc (cc (cc Zh)))) Zb))
  obtain ⟨r0, hw⟩ := hw
  (conv => whnf)
  refine AWP.weak r0 hw ?_
  refine nw ?_
  refine Zj hF (fun hc8 hF => ?_) (fun hc8 hF => ?_)
  ·refine AWP.seq ?_
   obtain ⟨r9, hr9, hF⟩ := bind_some hF
   refine ns ?_
   refine e3 ?_
   refine st ?_
   refine cm (Zk.weak (rn [(0, 0)]) (Zln out t.fName _ hr9) rfl (WS.mk (Zd (Zay rfl (WE.refl _)) (tc Zc)) Zb)) ?_
   refine st ?_
   obtain rfl := Zg hF
   refine ns ?_
   refine Exists.intro [] ?_
   refine st ?_
   exact Exists.intro (rn [(22, 0)]) (WS.mk (Zd (Zay rfl (WE.refl _)) Zc) Zb)
  ·refine nw ?_
   refine AWP.seq ?_
   refine AWP.seq ?_
   refine ns ?_
   refine nw ?_
   refine Zj hF (fun ZmJ hF => ?_) (fun ZmJ hF => ?_)
   ·refine AWP.seq ?_
    refine ns ?_
    refine AWP.seq ?_
    obtain ⟨ZHw, hF⟩ := Zy hF
    refine nn ?_
    refine sa (fun l => ZbW l (fun x => Zfg x)) ZHw ?_
    refine Exists.intro _ (And.intro (WE.refl _) ?_)
    (try rw [List.nil_append])
    refine st ?_
    refine AWP.seq ?_
    obtain ⟨ZHW, hF⟩ := Zy hF
    refine ns ?_
    refine Exists.intro _ (And.intro (Zcm (f := c_S) (lc Zo) (Zaw (f := c_S))) ?_)
    refine sa (fun l => ZbW l (fun x => Zfg x)) ZHW ?_
    refine Exists.intro _ (And.intro (WE.refl _) ?_)
    rw [← List.map_append]
    refine st ?_
    refine ns ?_
    refine AWP.weak (rn [(0, 0)]) ?_ (Zgc out (Z2 ++ ([t.fName])) t _ hF)
    exact (WS.mk (Zd (Zay rfl (WE.refl _)) (tc (tp Zc))) (Zf rfl (cc (cc (cc (cc Zh)))) Zb))
   ·refine nw ?_
    refine AWP.weak (rn [(0, 0)]) ?_ (Zgc out Z2 t _ hF)
    exact (WS.mk (Zd (Zay rfl (WE.refl _)) (tc (tp Zc))) (Zf rfl (cc (cc (cc (cc Zh)))) Zb))
 ·intro lazycref04_Collect_l2' Zet out ZR t r hF
  unfold ZaB.M
  refine AWP.seq ?_
  refine AWP.seq ?_
  refine ns ?_
  refine AWP.block ?_
  refine AWP.loop ?_
  refine AWL.weak (rn [(0, 0)]) ?_ (Zet out ZR 0 t t.fKids _ hF ([]) rfl rfl)
  exact (WS.mk (Zd (Zay rfl (WE.refl _)) (tc (tp (tc Zc)))) (Zf rfl (cc (cc (cc (cc Zh)))) Zb))
 ·intro lazycref04_Collect' lazycref04_Collect_l2' Zlh Zet ZnS ZR i_8 t ZiP r hF
  unfold ZaS.M
  intro Zki Zzw Zzo
  refine AWL.step ?_
  refine AWP.seq ?_
  refine AWP.seq ?_
  refine ns ?_
  intro hlen27
  (try rw [List.length_map] at hlen27)
  (try rw [List.length_map])
  refine st ?_
  refine nw ?_
  refine ZS Zzw Zzo (fun x28 ZCW ZDc ZGR ZIe => ?_) (fun ZDc => ?_)
  ·subst ZDc
   refine nw ?_
   refine AWP.seq ?_
   refine AWP.block ?_
   obtain ⟨r31, ZCc, hF⟩ := bind_some hF
   refine nn ?_
   refine sr (Zau (f := Za.cells) (Za.cells_eq x28) ZGR) ?_
   refine st ?_
   refine e3 ?_
   refine st ?_
   refine cm (Zk.weak (rn [(0, 0)]) (Zlh ZnS ZR x28 _ ZCc) rfl (WS.mk (Zd (Zay rfl (WE.refl _)) (tc (Zd (Zt (lc (lc (lc (lc Zo))))) Zc))) Zb)) ?_
   refine st ?_
   refine ns ?_
   refine AWL.weak (rn [(49, 0)]) ?_ (Zet r31 ZR (i_8 + 1) t ZCW _ hF (Zki ++ [x28]) (by rw [Zzw]; simp) (by rw [Zzo]; simp))
   exact (WS.mk (Zd (Zay rfl (WE.refl _)) (tc (tp (Zd (Zs (Zdd (ZZ hlen27 ZIe))) Zc)))) (Zf rfl (cc (cc (cc (cc Zh)))) Zb))
  ·subst ZDc
   refine nw ?_
   refine AWP.seq ?_
   refine ns ?_
   obtain rfl := Zg hF
   refine ns ?_
   refine Exists.intro [] ?_
   refine st ?_
   exact Exists.intro (rn [(0, 0)]) (WS.mk (Zd (Zay rfl (WE.refl _)) Zc) Zb)
theorem Zht : ∀ (out : (List ByteArray)) (Z2 : (List ByteArray)) (t : Za), ∀ r, Zac out Z2 t = some r → Zac.M out Z2 t r := ZkO.1

mutual
def Zby (sub : (List (ByteArray × Za))) (t : Za) : Option (Int × Int) :=
 Zeh sub (Za.mk 0 (ByteArray.mk #[]) (Zi.mk ([] : List Zi)) ([] : List Za)) t.fName >>= fun r7 =>
 if (r7.2 && (t.fOp == 1)) = true then
 Zcg r7.1 >>= fun r12 =>
 ZbU r7.1 >>= fun r13 =>
 some (r12, r13)
 else
 Zeh sub (Za.mk 0 (ByteArray.mk #[]) (Zi.mk ([] : List Zi)) ([] : List Za)) t.fName >>= fun r16 =>
 if (r16.2 && (t.fOp == 4)) = true then
 none
 else
 Z8 0 0 t 0 sub t.fKids
 partial_fixpoint
def Z8 (Zdo : Int) (Zck : Int) (t : Za) (Znx : Nat) (sub : (List (ByteArray × Za))) (ZfL : (List Za)) : Option (Int × Int) :=
 (match ZfL with
 | x42 :: ZDm =>
 Zby sub x42 >>= fun r45 =>
 Z8 (IntKind.i64.wrap (Zdo + r45.1)) (if r45.2 > Zck then r45.2 else Zck) t (Znx + 1) sub ZDm
 | [] =>
 some (IntKind.i64.wrap (Zdo + 1), IntKind.i64.wrap (Zck + 1)))
 partial_fixpoint
end
def Zby.M (sub : (List (ByteArray × Za))) (t : Za) (r : Int × Int) : Prop :=
 Zk Tryz.prog 69 [.c none (.rf 1000), .agg [.v (.int .i64 t.fOp), .v (.string t.fName), .sl (t.fBound.fArgs.map Zi.cells), .sl (t.fKids.map Za.cells)]] [(1000, [(none, .ob 183 (sub.map (ZdK c_S Za.cells)))])] (fun d b => d = .tup [.c (.v (.int .i64 r.1)), .c (.v (.int .i64 r.2))] ∧ b = [(1000, [(none, .ob 183 (sub.map (ZdK c_S Za.cells)))])])
def Z8.M (Zdo : Int) (Zck : Int) (t : Za) (Znx : Nat) (sub : (List (ByteArray × Za))) (ZfL : (List Za)) (r : Int × Int) : Prop :=
 ∀ ZnL : List Za, t.fKids = ZnL ++ ZfL → Znx = ZnL.length → t.fKids.length ≤ maxLen → AWL Tryz.prog 72 (Code.sub (Zq Tryz.f69) [1, 1, 1, 0, 1, 0, 0]) (Code.cont Tryz.prog 72 (Zq Tryz.f69) [1, 1, 1, 0, 1, 0] (ZbS tab Tryz.f69.results (ZbX (.tup [.c (.v (.int .i64 r.1)), .c (.v (.int .i64 r.2))]) [(1000, [(none, .ob 183 (sub.map (ZdK c_S Za.cells)))])]))) ⟨[(0, .c none (.rf 1000)), (4, .c none (.v (.int .i64 Zdo))), (5, .c none (.v (.int .i64 Zck))), (49, .c none (.sl (t.fKids.map Za.cells))), (50, .c none (.v (.int .i64 ((t.fKids.length : Nat) : Int)))), (51, .c none (.v (.int .i64 ((Znx : Nat) : Int))))], [(1000, [(none, .ob 183 (sub.map (ZdK c_S Za.cells)))])]⟩
theorem Zou (sub : (List (ByteArray × Za))) : (∀ (t : Za), ∀ r, Zby sub t = some r → Zby.M sub t r) ∧ (∀ (Zdo : Int) (Zck : Int) (t : Za) (Znx : Nat) (ZfL : (List Za)), ∀ r, Z8 Zdo Zck t Znx sub ZfL = some r → Z8.M Zdo Zck t Znx sub ZfL r) := by
 refine Zby.mutual_partial_correctness sub (fun t r => Zby.M sub t r) (fun Zdo Zck t Znx ZfL r => Z8.M Zdo Zck t Znx sub ZfL r) ?_ ?_
 ·intro types_measure_l1' Zdz t r hF
  have ZfW := fun (Zdo : Int) (Zck : Int) (t : Za) (Znx : Nat) (_sub : (List (ByteArray × Za))) (ZfL : (List Za)) => Zdz Zdo Zck t Znx ZfL
  clear Zdz
  unfold Zby.M
  refine en Tryz.func69 ?_
  refine AWP.seq ?_
  refine ns ?_
  refine AWP.seq ?_
  refine AWP.seq ?_
  obtain ⟨r7, hr7, hF⟩ := bind_some hF
  refine ns ?_
  refine Zhd (m := sub) (k := t.fName) ZgW (ev := Za.cells) hr7 (Za.cells_eq r7.1) (fun x => Za.cells_len x) rfl rfl (Zea (Za.cells_eq (Za.mk 0 (ByteArray.mk #[]) (Zi.mk ([] : List Zi)) ([] : List Za))) (lc (lc (ZaD WE.nil (ZaD WE.nil Zo))))) ?_
  refine st ?_
  refine AWP.seq ?_
  refine AWP.cutN (fun T => ∃ r, WS r T ⟨[(0, .c none (.rf 1000)), (3, .ptr 3 0), (4, .c none (.v (.int .i64 0))), (5, .c none (.v (.int .i64 0))), (6, .ptr 6 0), (26, .c none (.v (.bool (r7.2 && (t.fOp == 1)))))], [(3, [(none, .v (.int .i64 t.fOp)), (none, .v (.string t.fName)), (none, .sl (t.fBound.fArgs.map Zi.cells)), (none, .sl (t.fKids.map Za.cells))]), (6, [(none, .v (.int .i64 r7.1.fOp)), (none, .v (.string r7.1.fName)), (none, .sl (r7.1.fBound.fArgs.map Zi.cells)), (none, .sl (r7.1.fKids.map Za.cells))]), (1000, [(none, .ob 183 (sub.map (ZdK c_S Za.cells)))])]⟩) ?_ (fun T hw => ?_)
  ·refine ns ?_
   refine Zl true (fun hc8 => ?_) (fun hc8 => ?_)
   ·(conv => whnf)
    refine st ?_
    exact wx (WS.mk (tc (tp (tc (tc (tp (Zd (Zs (web hc8)) Zc)))))) (Zf rfl (cc (cc (cc (cc Zh)))) (Zf rfl (cc (cc (cc (cc Zh)))) (Zf rfl (cc Zh) Zb))))
   ·(conv => whnf)
    refine st ?_
    exact wx (WS.mk (tc (tp (tc (tc (tp (Zd (Zs (web hc8)) Zc)))))) (Zf rfl (cc (cc (cc (cc Zh)))) (Zf rfl (cc (cc (cc (cc Zh)))) (Zf rfl (cc Zh) Zb))))
  obtain ⟨r0, hw⟩ := hw
  (conv => whnf)
  refine AWP.weak r0 hw ?_
  refine nw ?_
  refine Zj hF (fun hc9 hF => ?_) (fun hc9 hF => ?_)
  ·refine AWP.seq ?_
   obtain ⟨r12, ZAE, hF⟩ := bind_some hF
   obtain ⟨r13, ZGv, hF⟩ := bind_some hF
   refine nn ?_
   refine Or.inl (Or.inr (Exists.intro [2] (Exists.intro [[29]] (Exists.intro [6] (Exists.intro [6, 29] (Exists.intro [29] (Exists.intro [0, 1, 3, 4, 5] (And.intro (by decide +kernel) ?_))))))))
   refine dp ?_
   refine st ?_
   refine e3 ?_
   refine st ?_
   refine cm (Zk.weak (rn []) (Zm3 r7.1 _ ZAE) rfl (WS.mk (Zd (Zt (lc (lc (lc (lc Zo))))) Zc) Zb)) ?_
   refine st ?_
   refine e3 ?_
   refine st ?_
   refine cm (Zk.weak (rn []) (ZlR r7.1 _ ZGv) rfl (WS.mk (Zd (Zt (lc (lc (lc (lc Zo))))) Zc) Zb)) ?_
   refine st ?_
   obtain rfl := Zg hF
   refine ns ?_
   refine Exists.intro [(1000, 1000)] ?_
   refine st ?_
   exact wx (WS.mk (Zd (ZdE (Zc6 (WE.refl _) (Zc6 (WE.refl _) ZdF))) Zc) (Zf rfl (cc Zh) Zb))
  ·refine nw ?_
   refine AWP.seq ?_
   refine AWP.seq ?_
   obtain ⟨r16, Zyt, hF⟩ := bind_some hF
   refine ns ?_
   refine Zhd (m := sub) (k := t.fName) ZgW (ev := Za.cells) Zyt (Za.cells_eq r16.1) (fun x => Za.cells_len x) rfl rfl (Zea (Za.cells_eq (Za.mk 0 (ByteArray.mk #[]) (Zi.mk ([] : List Zi)) ([] : List Za))) (lc (lc (ZaD WE.nil (ZaD WE.nil Zo))))) ?_
   refine st ?_
   refine AWP.seq ?_
   refine AWP.cutN (fun T => ∃ r, WS r T ⟨[(0, .c none (.rf 1000)), (3, .ptr 3 0), (4, .c none (.v (.int .i64 0))), (5, .c none (.v (.int .i64 0))), (43, .c none (.v (.bool (r16.2 && (t.fOp == 4)))))], [(3, [(none, .v (.int .i64 t.fOp)), (none, .v (.string t.fName)), (none, .sl (t.fBound.fArgs.map Zi.cells)), (none, .sl (t.fKids.map Za.cells))]), (1000, [(none, .ob 183 (sub.map (ZdK c_S Za.cells)))])]⟩) ?_ (fun T hw => ?_)
   ·refine ns ?_
    refine Zl true (fun Zfl => ?_) (fun Zfl => ?_)
    ·(conv => whnf)
     refine st ?_
     exact wx (WS.mk (tc (tp (tc (tc (Zd (Zs (web Zfl)) Zc))))) (Zf rfl (cc (cc (cc (cc Zh)))) (Zf rfl (cc Zh) Zb)))
    ·(conv => whnf)
     refine st ?_
     exact wx (WS.mk (tc (tp (tc (tc (Zd (Zs (web Zfl)) Zc))))) (Zf rfl (cc (cc (cc (cc Zh)))) (Zf rfl (cc Zh) Zb)))
   obtain ⟨r0, hw⟩ := hw
   (conv => whnf)
   refine AWP.weak r0 hw ?_
   refine nw ?_
   refine Zj hF (fun ZjH hF => ?_) (fun ZjH hF => ?_)
   ·cases hF
   ·refine nw ?_
    refine AWP.seq ?_
    refine AWP.seq ?_
    refine ns ?_
    intro hlen32
    (try rw [List.length_map] at hlen32)
    (try rw [List.length_map])
    refine st ?_
    refine AWP.block ?_
    refine AWP.loop ?_
    refine AWL.weak (rn []) ?_ (ZfW 0 0 t 0 sub t.fKids _ hF ([]) rfl rfl hlen32)
    exact (WS.mk (tc (tc (tc (tc (tc (tc Zc)))))) (Zf rfl (cc Zh) Zb))
 ·intro types_measure' types_measure_l1' Zjh Zdz Zdo Zck t Znx ZfL r hF
  have Zo0 := fun (_sub : (List (ByteArray × Za))) (t : Za) => Zjh t
  clear Zjh
  have ZfW := fun (Zdo : Int) (Zck : Int) (t : Za) (Znx : Nat) (_sub : (List (ByteArray × Za))) (ZfL : (List Za)) => Zdz Zdo Zck t Znx ZfL
  clear Zdz
  unfold Z8.M
  intro ZnL Zw8 Zwv hlen32
  refine AWL.step ?_
  refine AWP.seq ?_
  refine ns ?_
  refine AWP.seq ?_
  refine nw ?_
  refine ZS Zw8 Zwv (fun x42 ZDm ZDS ZIr ZGk => ?_) (fun ZDS => ?_)
  ·subst ZDS
   refine nw ?_
   refine AWP.seq ?_
   refine AWP.block ?_
   refine AWP.seq ?_
   refine nn ?_
   refine sr (Zau (f := Za.cells) (Za.cells_eq x42) ZIr) ?_
   refine st ?_
   refine AWP.seq ?_
   obtain ⟨r45, ZCu, hF⟩ := bind_some hF
   refine ns ?_
   refine Exists.intro [] (Exists.intro [(1000, 1000)] (Exists.intro [] ?_))
   refine st ?_
   refine cm (Zk.weak (rn []) (Zo0 sub x42 _ ZCu) rfl (WS.mk (tc (Zd (Zt (lc (lc (lc (lc Zo))))) Zc)) (Zf rfl (cc Zh) Zb))) ?_
   refine st ?_
   refine ns ?_
   refine ns ?_
   refine AWL.weak (rn []) ?_ (ZfW (IntKind.i64.wrap (Zdo + r45.1)) (if r45.2 > Zck then r45.2 else Zck) t (Znx + 1) sub ZDm _ hF (ZnL ++ [x42]) (by rw [Zw8]; simp) (by rw [Zwv]; simp) hlen32)
   exact (WS.mk (tc (tc (tc (tc (tc (Zd (Zs (Zdd (ZZ hlen32 ZGk))) Zc)))))) (Zf rfl (cc Zh) Zb))
  ·subst ZDS
   refine nw ?_
   refine AWP.seq ?_
   refine ns ?_
   obtain rfl := Zg hF
   refine ns ?_
   refine Exists.intro [(1000, 1000)] ?_
   refine st ?_
   exact wx (WS.mk (Zd (ZdE (Zc6 (WE.refl _) (Zc6 (WE.refl _) ZdF))) Zc) (Zf rfl (cc Zh) Zb))
theorem Zj0 : ∀ (sub : (List (ByteArray × Za))) (t : Za), ∀ r, Zby sub t = some r → Zby.M sub t r := fun sub t => (Zou sub).1 t

def Zc2 (Zd1 : (List ByteArray)) (r77 : ((List ByteArray))) (ZmT : Nat) (t : Za) (sub : (List (ByteArray × Za))) (Zgo : (List ByteArray)) : Option (Za) :=
 (match Zgo with
 | x92 :: Zz8 =>
 Zeh sub (Za.mk 0 (ByteArray.mk #[]) (Zi.mk ([] : List Zi)) ([] : List Za)) x92 >>= fun r95 =>
 if r95.2 = true then
 ZcK Zd1 ([] : List ByteArray) r95.1 >>= fun r97 =>
 Zc2 r97 r77 (ZmT + 1) t sub Zz8
 else
 Zc2 Zd1 r77 (ZmT + 1) t sub Zz8
 | [] =>
 none)
 partial_fixpoint
def Zc2.M (Zd1 : (List ByteArray)) (r77 : ((List ByteArray))) (ZmT : Nat) (t : Za) (sub : (List (ByteArray × Za))) (Zgo : (List ByteArray)) (r : Za) : Prop :=
 ∀ ZlC : List ByteArray, r77 = ZlC ++ Zgo → ZmT = ZlC.length → r77.length ≤ maxLen → AWL Tryz.prog 98 (Code.sub (Zq Tryz.f70) [1, 1, 0, 1, 0, 1, 0, 1, 0, 0]) (Code.cont Tryz.prog 98 (Zq Tryz.f70) [1, 1, 0, 1, 0, 1, 0, 1, 0] (ZbS tab Tryz.f70.results (ZbX (.agg [.v (.int .i64 r.fOp), .v (.string r.fName), .sl (r.fBound.fArgs.map Zi.cells), .sl (r.fKids.map Za.cells)]) [(1000, [(none, .ob 183 (sub.map (ZdK c_S Za.cells)))])]))) ⟨[(0, .c none (.rf 1000)), (3, .ptr 3 0), (4, .ptr 4 0), (7, .c (some (7, 9)) (.sl (Zd1.map c_S))), (34, .c (some (34, 9)) (.sl (r77.map c_S))), (35, .c none (.v (.int .i64 ((r77.length : Nat) : Int)))), (36, .c none (.v (.int .i64 ((ZmT : Nat) : Int))))], [(3, [(none, .v (.int .i64 t.fOp)), (none, .v (.string t.fName)), (none, .sl (t.fBound.fArgs.map Zi.cells)), (none, .sl (t.fKids.map Za.cells))]), (4, [(none, .v (.int .i64 0)), (none, .v (.string (ByteArray.mk #[]))), (none, .nils), (none, .nils)]), (1000, [(none, .ob 183 (sub.map (ZdK c_S Za.cells)))])]⟩
theorem ZnH (Zd1 : (List ByteArray)) (r77 : ((List ByteArray))) (ZmT : Nat) (t : Za) (sub : (List (ByteArray × Za))) (Zgo : (List ByteArray)) : ∀ r, Zc2 Zd1 r77 ZmT t sub Zgo = some r → Zc2.M Zd1 r77 ZmT t sub Zgo r := by
 refine Zc2.partial_correctness r77 t sub (fun Zd1 ZmT Zgo r => Zc2.M Zd1 r77 ZmT t sub Zgo r) ?_ Zd1 ZmT Zgo
 intro types_subst_l1' ZiI Zd1 ZmT Zgo r hF
 have Zjv := fun (Zd1 : (List ByteArray)) (_r77 : ((List ByteArray))) (ZmT : Nat) (_t : Za) (_sub : (List (ByteArray × Za))) (Zgo : (List ByteArray)) => ZiI Zd1 ZmT Zgo
 clear ZiI
 unfold Zc2.M
 intro ZlC Zs7 ZtB hlen78
 refine AWL.step ?_
 refine AWP.seq ?_
 refine ns ?_
 refine AWP.seq ?_
 refine nw ?_
 refine ZS Zs7 ZtB (fun x92 Zz8 ZDG ZH2 ZEs => ?_) (fun ZDG => ?_)
 ·subst ZDG
  refine nw ?_
  refine AWP.seq ?_
  refine AWP.block ?_
  refine AWP.seq ?_
  refine nn ?_
  refine sr (Zau (f := c_S) rfl ZH2) ?_
  refine st ?_
  refine AWP.seq ?_
  obtain ⟨r95, ZHq, hF⟩ := bind_some hF
  refine ns ?_
  refine Zhd (m := sub) (k := x92) ZgW (ev := Za.cells) ZHq (Za.cells_eq r95.1) (fun x => Za.cells_len x) rfl rfl (Zea (Za.cells_eq (Za.mk 0 (ByteArray.mk #[]) (Zi.mk ([] : List Zi)) ([] : List Za))) (lc (lc (ZaD WE.nil (ZaD WE.nil Zo))))) ?_
  refine st ?_
  refine AWP.seq ?_
  refine ns ?_
  refine nw ?_
  refine Zj hF (fun Zu2 hF => ?_) (fun Zu2 hF => ?_)
  ·obtain ⟨r97, ZHk, hF⟩ := bind_some hF
   refine ns ?_
   refine e3 ?_
   refine st ?_
   refine cm (Zk.weak (rn [(7, 0)]) (ZjI Zd1 ([] : List ByteArray) r95.1 _ ZHk) rfl (WS.mk (Zd (Zay rfl (WE.refl _)) (Zd (Zs WE.nil) (Zd (Zt (lc (lc (lc (lc Zo))))) Zc))) Zb)) ?_
   refine st ?_
   refine ns ?_
   refine AWL.weak (rn [(34, 34), (49, 7)]) ?_ (Zjv r97 r77 (ZmT + 1) t sub Zz8 _ hF (ZlC ++ [x92]) (by rw [Zs7]; simp) (by rw [ZtB]; simp) hlen78)
   exact (WS.mk (tc (tp (tp (Zd (Zay rfl (WE.refl _)) (Zd (Zay rfl (WE.refl _)) (tc (Zd (Zs (Zdd (ZZ hlen78 ZEs))) Zc))))))) (Zf rfl (cc (cc (cc (cc Zh)))) (Zf rfl (cc (cc (cc (cc Zh)))) (Zf rfl (cc Zh) Zb))))
  ·refine nw ?_
   refine ns ?_
   refine AWL.weak (rn [(7, 7), (34, 34)]) ?_ (Zjv Zd1 r77 (ZmT + 1) t sub Zz8 _ hF (ZlC ++ [x92]) (by rw [Zs7]; simp) (by rw [ZtB]; simp) hlen78)
   exact (WS.mk (tc (tp (tp (Zd (Zay rfl (WE.refl _)) (Zd (Zay rfl (WE.refl _)) (tc (Zd (Zs (Zdd (ZZ hlen78 ZEs))) Zc))))))) (Zf rfl (cc (cc (cc (cc Zh)))) (Zf rfl (cc (cc (cc (cc Zh)))) (Zf rfl (cc Zh) Zb))))
 ·subst ZDG
  refine nw ?_
  refine AWP.seq ?_
  cases hF

mutual
def Zcn (sub : (List (ByteArray × Za))) (t : Za) : Option (Za) :=
 if (t.fOp == 1) = true then
 Zeh sub (Za.mk 0 (ByteArray.mk #[]) (Zi.mk ([] : List Zi)) ([] : List Za)) t.fName >>= fun r12 =>
 if r12.2 = true then
 Zb1 r12.1 >>= fun r14 =>
 some r14
 else
 some t
 else
 if (t.fOp == 4) = true then
 ZcK ([] : List ByteArray) ([] : List ByteArray) t >>= fun r77 =>
 Zc2 ([]) r77 0 t sub r77
 else
 ZbM t 0 ([]) sub t.fKids
 partial_fixpoint
def ZbM (t : Za) (Znc : Nat) (Zif : (List Za)) (sub : (List (ByteArray × Za))) (ZfN : (List Za)) : Option (Za) :=
 (match ZfN with
 | Zzp :: Zy8 =>
 Zcn sub Zzp >>= fun ZAM =>
 ZK ((Zif.length + ([ZAM]).length) * 72 ≤ 140737488355328) >>= fun _ =>
 ZbM t (Znc + 1) (Zif ++ ([ZAM])) sub Zy8
 | [] =>
 some (Za.mk t.fOp t.fName t.fBound Zif))
 partial_fixpoint
end
def Zcn.M (sub : (List (ByteArray × Za))) (t : Za) (r : Za) : Prop :=
 Zk Tryz.prog 70 [.c none (.rf 1000), .agg [.v (.int .i64 t.fOp), .v (.string t.fName), .sl (t.fBound.fArgs.map Zi.cells), .sl (t.fKids.map Za.cells)]] [(1000, [(none, .ob 183 (sub.map (ZdK c_S Za.cells)))])] (fun d b => d = .agg [.v (.int .i64 r.fOp), .v (.string r.fName), .sl (r.fBound.fArgs.map Zi.cells), .sl (r.fKids.map Za.cells)] ∧ b = [(1000, [(none, .ob 183 (sub.map (ZdK c_S Za.cells)))])])
def ZbM.M (t : Za) (Znc : Nat) (Zif : (List Za)) (sub : (List (ByteArray × Za))) (ZfN : (List Za)) (r : Za) : Prop :=
 ∀ Zok : List Za, t.fKids = Zok ++ ZfN → Znc = Zok.length → t.fKids.length ≤ maxLen → AWL Tryz.prog 98 (Code.sub (Zq Tryz.f70) [1, 1, 1, 1, 1, 0, 1, 0, 0]) (Code.cont Tryz.prog 98 (Zq Tryz.f70) [1, 1, 1, 1, 1, 0, 1, 0] (ZbS tab Tryz.f70.results (ZbX (.agg [.v (.int .i64 r.fOp), .v (.string r.fName), .sl (r.fBound.fArgs.map Zi.cells), .sl (r.fKids.map Za.cells)]) [(1000, [(none, .ob 183 (sub.map (ZdK c_S Za.cells)))])]))) ⟨[(0, .c none (.rf 1000)), (3, .ptr 3 0), (4, .ptr 4 0), (82, .c none (.sl (t.fKids.map Za.cells))), (83, .c none (.v (.int .i64 ((t.fKids.length : Nat) : Int)))), (84, .c none (.v (.int .i64 ((Znc : Nat) : Int))))], [(3, [(none, .v (.int .i64 t.fOp)), (none, .v (.string t.fName)), (none, .sl (t.fBound.fArgs.map Zi.cells)), ((some (4153, 28)), .sl (Zif.map Za.cells))]), (4, [(none, .v (.int .i64 0)), (none, .v (.string (ByteArray.mk #[]))), (none, .nils), (none, .nils)]), (1000, [(none, .ob 183 (sub.map (ZdK c_S Za.cells)))])]⟩
theorem ZpO (sub : (List (ByteArray × Za))) : (∀ (t : Za), ∀ r, Zcn sub t = some r → Zcn.M sub t r) ∧ (∀ (t : Za) (Znc : Nat) (Zif : (List Za)) (ZfN : (List Za)), ∀ r, ZbM t Znc Zif sub ZfN = some r → ZbM.M t Znc Zif sub ZfN r) := by
 refine Zcn.mutual_partial_correctness sub (fun t r => Zcn.M sub t r) (fun t Znc Zif ZfN r => ZbM.M t Znc Zif sub ZfN r) ?_ ?_
 ·intro types_subst_l2' Zd3 t r hF
  have Zg9 := fun (t : Za) (Znc : Nat) (Zif : (List Za)) (_sub : (List (ByteArray × Za))) (ZfN : (List Za)) => Zd3 t Znc Zif ZfN
  clear Zd3
  unfold Zcn.M
  refine en Tryz.func70 ?_
  refine AWP.seq ?_
  refine ns ?_
  refine AWP.seq ?_
  refine AWP.seq ?_
  refine ns ?_
  refine nw ?_
  refine Zj hF (fun hc8 hF => ?_) (fun hc8 hF => ?_)
  ·refine AWP.seq ?_
   refine AWP.seq ?_
   obtain ⟨r12, ZAE, hF⟩ := bind_some hF
   refine ns ?_
   refine Zhd (m := sub) (k := t.fName) ZgW (ev := Za.cells) ZAE (Za.cells_eq r12.1) (fun x => Za.cells_len x) rfl rfl (Zea (Za.cells_eq (Za.mk 0 (ByteArray.mk #[]) (Zi.mk ([] : List Zi)) ([] : List Za))) (lc (lc (ZaD WE.nil (ZaD WE.nil Zo))))) ?_
   refine st ?_
   refine AWP.seq ?_
   refine ns ?_
   refine nw ?_
   refine Zj hF (fun Zcx hF => ?_) (fun Zcx hF => ?_)
   ·refine AWP.seq ?_
    obtain ⟨r14, Zq7, hF⟩ := bind_some hF
    refine ns ?_
    refine e3 ?_
    refine st ?_
    refine cm (Zk.weak (rn []) (ZpI r12.1 _ Zq7) rfl (WS.mk (Zd (Zt (lc (lc (lc (lc Zo))))) Zc) Zb)) ?_
    refine st ?_
    obtain rfl := Zg hF
    refine ns ?_
    refine Exists.intro [(1000, 1000)] ?_
    refine st ?_
    exact wx (WS.mk (Zd (Zt (lc (lc (lc (lc Zo))))) Zc) (Zf rfl (cc Zh) Zb))
   ·refine nw ?_
    refine AWP.seq ?_
    refine ns ?_
    obtain rfl := Zg hF
    refine ns ?_
    refine Exists.intro [(1000, 1000)] ?_
    refine st ?_
    exact wx (WS.mk (Zd (Zt (lc (lc (lc (lc Zo))))) Zc) (Zf rfl (cc Zh) Zb))
  ·refine nw ?_
   refine AWP.seq ?_
   refine AWP.seq ?_
   refine ns ?_
   refine nw ?_
   refine Zj hF (fun Zhm hF => ?_) (fun Zhm hF => ?_)
   ·refine AWP.seq ?_
    refine ns ?_
    refine AWP.seq ?_
    refine AWP.seq ?_
    obtain ⟨r77, ZG9, hF⟩ := bind_some hF
    refine ns ?_
    refine e3 ?_
    refine st ?_
    refine cm (Zk.weak (rn []) (ZjI ([] : List ByteArray) ([] : List ByteArray) t _ ZG9) rfl (WS.mk (Zd ZkZ (Zd (Zs WE.nil) (Zd (Zt (lc (lc (lc (lc Zo))))) Zc))) Zb)) ?_
    refine st ?_
    intro hlen78
    (try rw [List.length_map] at hlen78)
    (try rw [List.length_map])
    refine st ?_
    refine AWP.block ?_
    refine AWP.loop ?_
    refine AWL.weak (rn [(34, 34)]) ?_ (ZnH ([]) r77 0 t sub r77 _ hF ([]) rfl rfl hlen78)
    exact (WS.mk (tc (tp (tp (Zd ZkZ (Zd (Zay rfl (WE.refl _)) (tc (tc Zc))))))) (Zf rfl (cc (cc (cc (cc Zh)))) (Zf rfl (cc (cc (cc (cc Zh)))) (Zf rfl (cc Zh) Zb))))
   ·refine nw ?_
    refine AWP.seq ?_
    refine ns ?_
    refine AWP.seq ?_
    refine ns ?_
    refine AWP.seq ?_
    refine AWP.seq ?_
    refine ns ?_
    intro hlen138
    (try rw [List.length_map] at hlen138)
    (try rw [List.length_map])
    refine st ?_
    refine AWP.block ?_
    refine AWP.loop ?_
    refine AWL.weak (rn []) ?_ (Zg9 t 0 ([]) sub t.fKids _ hF ([]) rfl rfl hlen138)
    exact (WS.mk (tc (tp (tp (tc (tc (tc Zc)))))) (Zf rfl (cc (cc (cc (Zmw Zh)))) (Zf rfl (cc (cc (cc (cc Zh)))) (Zf rfl (cc Zh) Zb))))
 ·intro types_subst' types_subst_l2' Zlc Zd3 t Znc Zif ZfN r hF
  have Zrq := fun (_sub : (List (ByteArray × Za))) (t : Za) => Zlc t
  clear Zlc
  have Zg9 := fun (t : Za) (Znc : Nat) (Zif : (List Za)) (_sub : (List (ByteArray × Za))) (ZfN : (List Za)) => Zd3 t Znc Zif ZfN
  clear Zd3
  unfold ZbM.M
  intro Zok Zwn Zwl hlen138
  refine AWL.step ?_
  refine AWP.seq ?_
  refine ns ?_
  refine AWP.seq ?_
  refine nw ?_
  refine ZS Zwn Zwl (fun Zzp Zy8 Zzk ZFu ZFJ => ?_) (fun Zzk => ?_)
  ·subst Zzk
   refine nw ?_
   refine AWP.seq ?_
   refine AWP.block ?_
   refine AWP.seq ?_
   refine nn ?_
   refine sr (Zau (f := Za.cells) (Za.cells_eq Zzp) ZFu) ?_
   refine st ?_
   obtain ⟨ZAM, ZF9, hF⟩ := bind_some hF
   obtain ⟨ZEV, hF⟩ := Zy hF
   refine nn ?_
   refine Or.inl (Or.inl (Exists.intro 6 (Exists.intro [[], [], [], [], [1000], []] (Exists.intro [([88, 89, 90, 91, 92, 93], [1000], []), ([89, 90, 91, 92, 93], [1000], []), ([88, 89, 90, 91, 92, 93], [], []), ([88, 89, 90, 91, 92, 93], [], []), ([88, 89, 92, 93], [], [1000]), ([88, 89, 93], [], [])] (Exists.intro [88, 89, 90, 91, 92, 93] (And.intro (by decide +kernel) ?_))))))
   refine dp ?_
   refine dp ?_
   refine dp ?_
   refine dp ?_
   (refine st ?_; apply Exists.intro; apply Exists.intro; apply And.intro; (focus ((conv => whnf); refine Exists.intro [(1000, 1000)] ?_; (conv => whnf); refine And.intro rfl ?_; (conv => whnf); refine Zk.mono (Zk.weak (rn []) (Zrq sub Zzp _ ZF9) rfl (WS.mk (tc (Zd (Zt (lc (lc (lc (lc Zo))))) Zc)) (Zf rfl (cc Zh) Zb))) ?_; rintro d b ⟨rfl, rfl⟩; exact And.intro rfl (And.intro rfl rfl))); apply And.intro; (focus exact rfl); (conv => whnf))
   refine de (Zcm (f := Za.cells) (Zea (Za.cells_eq ZAM) (lc (lc (lc (lc Zo))))) (Zaw (f := Za.cells))) ?_
   refine sa (fun l => ZbW l (fun x => Za.cells_len x)) ZEV ?_
   refine Exists.intro _ (And.intro (WE.refl _) ?_)
   rw [← List.map_append]
   refine st ?_
   refine ns ?_
   refine AWL.weak (rn [(94, 4153)]) ?_ (Zg9 t (Znc + 1) (Zif ++ ([ZAM])) sub Zy8 _ hF (Zok ++ [Zzp]) (by rw [Zwn]; simp) (by rw [Zwl]; simp) hlen138)
   exact (WS.mk (tc (tp (tp (tc (tc (Zd (Zs (Zdd (ZZ hlen138 ZFJ))) Zc)))))) (Zf rfl (cc (cc (cc (ZsY rfl (WE.refl _) Zh)))) (Zf rfl (cc (cc (cc (cc Zh)))) (Zf rfl (cc Zh) Zb))))
  ·subst Zzk
   refine nw ?_
   refine AWP.seq ?_
   refine ns ?_
   obtain rfl := Zg hF
   refine ns ?_
   refine Exists.intro [(1000, 1000)] ?_
   refine st ?_
   exact wx (WS.mk (Zd (Zt (lc (lc (lc (lc Zo))))) Zc) (Zf rfl (cc Zh) Zb))
theorem ZlH : ∀ (sub : (List (ByteArray × Za))) (t : Za), ∀ r, Zcn sub t = some r → Zcn.M sub t r := fun sub t => (ZpO sub).1 t

def Zb4 (s : (List Ze)) (Zfx : Nat) (t : Za) (Za8 : (List (ByteArray × Za))) (ZcT : (List Ze)) : Option (Za) :=
 (match ZcT with
 | x73 :: Zq9 =>
 ZaW x73.fName >>= fun r80 =>
 (if (!r80) = true then some true else ZbT x73.fType >>= fun r81 =>
 some (r81 != 0)) >>= fun c82 =>
 if c82 = true then
 some (Za.mk 0 (ByteArray.mk #[]) (Zi.mk ([] : List Zi)) ([] : List Za))
 else
 Zeh Za8 (Za.mk 0 (ByteArray.mk #[]) (Zi.mk ([] : List Zi)) ([] : List Za)) x73.fName >>= fun r85 =>
 if (!r85.2) = true then
 Zb4 s (Zfx + 1) t (Zhl Za8 x73.fName x73.fType) Zq9
 else
 Zb4 s (Zfx + 1) t Za8 Zq9
 | [] =>
 Zby Za8 t >>= fun r89 =>
 if ((decide (r89.1 > 20000)) || (decide (r89.2 > 100))) = true then
 some (Za.mk 0 (ByteArray.mk #[]) (Zi.mk ([] : List Zi)) ([] : List Za))
 else
 Zcn Za8 t >>= fun r92 =>
 some r92)
 partial_fixpoint
def Zb4.M (s : (List Ze)) (Zfx : Nat) (t : Za) (Za8 : (List (ByteArray × Za))) (ZcT : (List Ze)) (r : Za) : Prop :=
 ∀ Zfq : List Ze, s = Zfq ++ ZcT → Zfx = Zfq.length → s.length ≤ maxLen → AWL Tryz.prog 65 (Code.sub (Zq Tryz.f44) [1, 1, 1, 0, 1, 0, 0]) (Code.cont Tryz.prog 65 (Zq Tryz.f44) [1, 1, 1, 0, 1, 0] (ZbS tab Tryz.f44.results (ZbX (.agg [.v (.int .i64 r.fOp), .v (.string r.fName), .sl (r.fBound.fArgs.map Zi.cells), .sl (r.fKids.map Za.cells)]) [(1000, [(none, .ob 90 (s.map Ze.cells))])]))) ⟨[(3, .ptr 3 0), (4, .ptr 4 0), (5, .c none (.rf 16)), (17, .c none (.rs 1000 s.length)), (18, .c none (.v (.int .i64 ((s.length : Nat) : Int)))), (19, .c none (.v (.int .i64 ((Zfx : Nat) : Int))))], [(3, [(none, .v (.int .i64 t.fOp)), (none, .v (.string t.fName)), (none, .sl (t.fBound.fArgs.map Zi.cells)), (none, .sl (t.fKids.map Za.cells))]), (4, [(none, .v (.int .i64 0)), (none, .v (.string (ByteArray.mk #[]))), (none, .nils), (none, .nils)]), (16, [(none, .ob 183 (Za8.map (ZdK c_S Za.cells)))]), (1000, [(none, .ob 90 (s.map Ze.cells))])]⟩
theorem ZnN (s : (List Ze)) (Zfx : Nat) (t : Za) (Za8 : (List (ByteArray × Za))) (ZcT : (List Ze)) : ∀ r, Zb4 s Zfx t Za8 ZcT = some r → Zb4.M s Zfx t Za8 ZcT r := by
 refine Zb4.partial_correctness s t (fun Zfx Za8 ZcT r => Zb4.M s Zfx t Za8 ZcT r) ?_ Zfx Za8 ZcT
 intro types_Subst_l1' ZiT Zfx Za8 ZcT r hF
 have Zjq := fun (_s : (List Ze)) (Zfx : Nat) (_t : Za) (Za8 : (List (ByteArray × Za))) (ZcT : (List Ze)) => ZiT Zfx Za8 ZcT
 clear ZiT
 unfold Zb4.M
 intro Zfq Zko Zkj hlen45
 refine AWL.step ?_
 refine AWP.seq ?_
 refine ns ?_
 refine AWP.seq ?_
 refine nw ?_
 refine ZS Zko Zkj (fun x73 Zq9 Zvg ZAV ZyM => ?_) (fun Zvg => ?_)
 ·subst Zvg
  refine nw ?_
  refine AWP.seq ?_
  refine AWP.block ?_
  refine AWP.seq ?_
  refine ns ?_
  refine And.intro (Ztf ZAV) ?_
  refine st ?_
  refine sr (Zau (f := Ze.cells) (Ze.cells_eq x73) ZAV) ?_
  refine st ?_
  refine AWP.seq ?_
  refine AWP.seq ?_
  obtain ⟨r80, ZDZ, hF⟩ := bind_some hF
  obtain ⟨c82, ZlI, hF⟩ := bind_some hF
  refine AWP.cutN (fun T => ∃ r, WS r T ⟨[(3, .ptr 3 0), (4, .ptr 4 0), (5, .c none (.rf 16)), (7, .ptr 7 0), (17, .c none (.rs 1000 s.length)), (18, .c none (.v (.int .i64 ((s.length : Nat) : Int)))), (19, .c none (.v (.int .i64 ((Zfx : Nat) : Int)))), (32, .c none (.v (.bool c82)))], [(3, [(none, .v (.int .i64 t.fOp)), (none, .v (.string t.fName)), (none, .sl (t.fBound.fArgs.map Zi.cells)), (none, .sl (t.fKids.map Za.cells))]), (4, [(none, .v (.int .i64 0)), (none, .v (.string (ByteArray.mk #[]))), (none, .nils), (none, .nils)]), (7, [(none, .v (.string x73.fName)), (none, .v (.int .i64 x73.fType.fOp)), (none, .v (.string x73.fType.fName)), (none, .sl (x73.fType.fBound.fArgs.map Zi.cells)), (none, .sl (x73.fType.fKids.map Za.cells))]), (16, [(none, .ob 183 (Za8.map (ZdK c_S Za.cells)))]), (1000, [(none, .ob 90 (s.map Ze.cells))])]⟩) ?_ (fun T hw => ?_)
  ·refine ns ?_
   refine e3 ?_
   refine st ?_
   refine cm (Zk.weak (rn []) (Ze7 x73.fName _ ZDZ) rfl (WS.mk (tc Zc) Zb)) ?_
   refine st ?_
   refine Zl false (fun ZrF => ?_) (fun ZrF => ?_)
   ·have ZlI := ift ZrF ZlI
    (conv => whnf)
    obtain rfl := Zg ZlI
    refine st ?_
    exact wx (WS.mk (tp (tp (tc (tp (Zd (Zs (ZaH (by first | exact rfl | simp only [List.length_set]))) (tc (tc (Zd (Zs (web ZrF)) Zc)))))))) (Zf rfl (cc (cc (cc (cc Zh)))) (Zf rfl (cc (cc (cc (cc Zh)))) (Zf rfl (cc (cc (cc (cc (cc Zh))))) (Zf rfl (cc Zh) (Zf rfl (cc Zh) Zb))))))
   ·have ZlI := ife ZrF ZlI
    obtain ⟨r81, ZCR, ZlI⟩ := bind_some ZlI
    (conv => whnf)
    refine st ?_
    refine e3 ?_
    refine st ?_
    refine cm (Zk.weak (rn []) (ZeF x73.fType _ ZCR) rfl (WS.mk (Zd (Zt (lc (lc (lc (lc Zo))))) Zc) Zb)) ?_
    refine st ?_
    obtain rfl := Zg ZlI
    refine st ?_
    exact wx (WS.mk (tp (tp (tc (tp (Zd (Zs (ZaH (by first | exact rfl | simp only [List.length_set]))) (tc (tc (Zd (Zs (web ZrF)) Zc)))))))) (Zf rfl (cc (cc (cc (cc Zh)))) (Zf rfl (cc (cc (cc (cc Zh)))) (Zf rfl (cc (cc (cc (cc (cc Zh))))) (Zf rfl (cc Zh) (Zf rfl (cc Zh) Zb))))))
  obtain ⟨r0, hw⟩ := hw
  (conv => whnf)
  refine AWP.weak r0 hw ?_
  refine nw ?_
  refine Zj hF (fun Zz1 hF => ?_) (fun Zz1 hF => ?_)
  ·refine AWP.seq ?_
   refine ns ?_
   obtain rfl := Zg hF
   refine ns ?_
   refine Exists.intro [(1000, 1000)] ?_
   refine st ?_
   exact wx (WS.mk (Zd (Zt (lc (lc (ZaD WE.nil (ZaD WE.nil Zo))))) Zc) (Zf rfl (cc Zh) Zb))
  ·refine nw ?_
   refine AWP.seq ?_
   obtain ⟨r85, ZCy, hF⟩ := bind_some hF
   refine ns ?_
   refine Zhd (m := Za8) (k := x73.fName) ZgW (ev := Za.cells) ZCy (Za.cells_eq r85.1) (fun x => Za.cells_len x) rfl rfl (Zea (Za.cells_eq (Za.mk 0 (ByteArray.mk #[]) (Zi.mk ([] : List Zi)) ([] : List Za))) (lc (lc (ZaD WE.nil (ZaD WE.nil Zo))))) ?_
   refine st ?_
   refine AWP.seq ?_
   refine ns ?_
   refine nw ?_
   refine Zj hF (fun ZCa hF => ?_) (fun ZCa hF => ?_)
   ·refine ns ?_
    refine ZnT (m := Za8) (k := x73.fName) (v := x73.fType) ZgW (ev := Za.cells) (Zea (Za.cells_eq x73.fType) (lc (lc (lc (lc Zo))))) ?_
    refine st ?_
    refine ns ?_
    refine AWL.weak (rn []) ?_ (Zjq s (Zfx + 1) t (Zhl Za8 x73.fName x73.fType) Zq9 _ hF (Zfq ++ [x73]) (by rw [Zko]; simp) (by rw [Zkj]; simp) hlen45)
    exact (WS.mk (tp (tp (tc (Zd (Zs (ZaH (by first | exact rfl | simp only [List.length_set]))) (tc (Zd (Zs (Zdd (ZZ hlen45 ZyM))) Zc)))))) (Zf rfl (cc (cc (cc (cc Zh)))) (Zf rfl (cc (cc (cc (cc Zh)))) (Zf rfl (cc Zh) (Zf rfl (cc Zh) Zb)))))
   ·refine nw ?_
    refine ns ?_
    refine AWL.weak (rn []) ?_ (Zjq s (Zfx + 1) t Za8 Zq9 _ hF (Zfq ++ [x73]) (by rw [Zko]; simp) (by rw [Zkj]; simp) hlen45)
    exact (WS.mk (tp (tp (tc (Zd (Zs (ZaH (by first | exact rfl | simp only [List.length_set]))) (tc (Zd (Zs (Zdd (ZZ hlen45 ZyM))) Zc)))))) (Zf rfl (cc (cc (cc (cc Zh)))) (Zf rfl (cc (cc (cc (cc Zh)))) (Zf rfl (cc Zh) (Zf rfl (cc Zh) Zb)))))
 ·subst Zvg
  refine nw ?_
  refine AWP.seq ?_
  refine AWP.seq ?_
  obtain ⟨r89, ZCF, hF⟩ := bind_some hF
  refine ns ?_
  refine Exists.intro [] (Exists.intro [(16, 1000)] (Exists.intro [] ?_))
  refine st ?_
  refine cm (Zk.weak (rn []) (Zj0 Za8 t _ ZCF) rfl (WS.mk (tc (Zd (Zt (lc (lc (lc (lc Zo))))) Zc)) (Zf rfl (cc Zh) Zb))) ?_
  refine st ?_
  refine AWP.seq ?_
  refine AWP.cutN (fun T => ∃ r, WS r T ⟨[(3, .ptr 3 0), (4, .ptr 4 0), (5, .c none (.rf 16)), (60, .c none (.v (.bool ((decide (r89.1 > 20000)) || (decide (r89.2 > 100))))))], [(3, [(none, .v (.int .i64 t.fOp)), (none, .v (.string t.fName)), (none, .sl (t.fBound.fArgs.map Zi.cells)), (none, .sl (t.fKids.map Za.cells))]), (4, [(none, .v (.int .i64 0)), (none, .v (.string (ByteArray.mk #[]))), (none, .nils), (none, .nils)]), (16, [(none, .ob 183 (Za8.map (ZdK c_S Za.cells)))]), (1000, [(none, .ob 90 (s.map Ze.cells))])]⟩) ?_ (fun T hw => ?_)
  ·refine ns ?_
   refine Zl false (fun ZvQ => ?_) (fun ZvQ => ?_)
   ·(conv => whnf)
    refine st ?_
    exact wx (WS.mk (tp (tp (tc (Zd (Zs (web ZvQ)) Zc)))) (Zf rfl (cc (cc (cc (cc Zh)))) (Zf rfl (cc (cc (cc (cc Zh)))) (Zf rfl (cc Zh) (Zf rfl (cc Zh) Zb)))))
   ·(conv => whnf)
    refine st ?_
    exact wx (WS.mk (tp (tp (tc (Zd (Zs (web ZvQ)) Zc)))) (Zf rfl (cc (cc (cc (cc Zh)))) (Zf rfl (cc (cc (cc (cc Zh)))) (Zf rfl (cc Zh) (Zf rfl (cc Zh) Zb)))))
  obtain ⟨r0, hw⟩ := hw
  (conv => whnf)
  refine AWP.weak r0 hw ?_
  refine nw ?_
  refine Zj hF (fun ZC6 hF => ?_) (fun ZC6 hF => ?_)
  ·refine AWP.seq ?_
   refine ns ?_
   obtain rfl := Zg hF
   refine ns ?_
   refine Exists.intro [(1000, 1000)] ?_
   refine st ?_
   exact wx (WS.mk (Zd (Zt (lc (lc (ZaD WE.nil (ZaD WE.nil Zo))))) Zc) (Zf rfl (cc Zh) Zb))
  ·refine nw ?_
   refine AWP.seq ?_
   obtain ⟨r92, Zyp, hF⟩ := bind_some hF
   refine ns ?_
   refine Exists.intro [] (Exists.intro [(16, 1000)] (Exists.intro [] ?_))
   refine st ?_
   refine cm (Zk.weak (rn []) (ZlH Za8 t _ Zyp) rfl (WS.mk (tc (Zd (Zt (lc (lc (lc (lc Zo))))) Zc)) (Zf rfl (cc Zh) Zb))) ?_
   refine st ?_
   obtain rfl := Zg hF
   refine ns ?_
   refine Exists.intro [(1000, 1000)] ?_
   refine st ?_
   exact wx (WS.mk (Zd (Zt (lc (lc (lc (lc Zo))))) Zc) (Zf rfl (cc Zh) Zb))

def Zei (s : (List Ze)) (t : Za) : Option (Za) :=
 ZbT t >>= fun r3 =>
 if (r3 != 0) = true then
 some (Za.mk 0 (ByteArray.mk #[]) (Zi.mk ([] : List Zi)) ([] : List Za))
 else
 Zb4 s 0 t ([] : List (ByteArray × Za)) s
def Zei.M (s : (List Ze)) (t : Za) (r : Za) : Prop :=
 Zk Tryz.prog 44 [.c none (.rs 1000 s.length), .agg [.v (.int .i64 t.fOp), .v (.string t.fName), .sl (t.fBound.fArgs.map Zi.cells), .sl (t.fKids.map Za.cells)]] [(1000, [(none, .ob 90 (s.map Ze.cells))])] (fun d b => d = .agg [.v (.int .i64 r.fOp), .v (.string r.fName), .sl (r.fBound.fArgs.map Zi.cells), .sl (r.fKids.map Za.cells)] ∧ b = [(1000, [(none, .ob 90 (s.map Ze.cells))])])
theorem ZqK (s : (List Ze)) (t : Za) (r : Za) (hF : Zei s t = some r) : Zei.M s t r := by
 unfold Zei at hF
 unfold Zei.M
 refine en Tryz.func44 ?_
 refine AWP.seq ?_
 refine ns ?_
 refine AWP.seq ?_
 refine AWP.seq ?_
 obtain ⟨r3, hr3, hF⟩ := bind_some hF
 refine ns ?_
 refine e3 ?_
 refine st ?_
 refine cm (Zk.weak (rn []) (ZeF t _ hr3) rfl (WS.mk (Zd (Zt (lc (lc (lc (lc Zo))))) Zc) Zb)) ?_
 refine st ?_
 refine nw ?_
 refine Zj hF (fun hc4 hF => ?_) (fun hc4 hF => ?_)
 ·refine AWP.seq ?_
  refine ns ?_
  obtain rfl := Zg hF
  refine ns ?_
  refine Exists.intro [(1000, 1000)] ?_
  refine st ?_
  exact wx (WS.mk (Zd (Zt (lc (lc (ZaD WE.nil (ZaD WE.nil Zo))))) Zc) (Zf rfl (cc Zh) Zb))
 ·refine nw ?_
  refine AWP.seq ?_
  refine ns ?_
  refine AWP.seq ?_
  refine AWP.seq ?_
  refine ns ?_
  intro hlen45
  (try rw [List.length_map] at hlen45)
  (try rw [List.length_map])
  refine st ?_
  refine AWP.block ?_
  refine AWP.loop ?_
  refine AWL.weak (rn []) ?_ (ZnN s 0 t ([] : List (ByteArray × Za)) s _ hF ([]) rfl rfl hlen45)
  exact (WS.mk (tp (tp (tc (Zd (Zs (ZaH (by first | exact rfl | simp only [List.length_set]))) (tc (tc Zc)))))) (Zf rfl (cc (cc (cc (cc Zh)))) (Zf rfl (cc (cc (cc (cc Zh)))) (Zf rfl (cc Zh) (Zf rfl (cc Zh) Zb)))))

def ZbK (s : (List Ze)) (Zfx : Nat) (t : Za) (Za8 : (List (ByteArray × Za))) (ZcT : (List Ze)) : Option (Za) :=
 (match ZcT with
 | x73 :: Zq9 =>
 ZaW x73.fName >>= fun r80 =>
 (if (!r80) = true then some true else ZbT x73.fType >>= fun r81 =>
 some (r81 != 0)) >>= fun c82 =>
 if c82 = true then
 some (Za.mk 0 (ByteArray.mk #[]) (Zi.mk ([] : List Zi)) ([] : List Za))
 else
 Zeh Za8 (Za.mk 0 (ByteArray.mk #[]) (Zi.mk ([] : List Zi)) ([] : List Za)) x73.fName >>= fun r85 =>
 if (!r85.2) = true then
 ZbK s (Zfx + 1) t (Zhl Za8 x73.fName x73.fType) Zq9
 else
 ZbK s (Zfx + 1) t Za8 Zq9
 | [] =>
 Zby Za8 t >>= fun r89 =>
 if ((decide (r89.1 > 20000)) || (decide (r89.2 > 100))) = true then
 some (Za.mk 0 (ByteArray.mk #[]) (Zi.mk ([] : List Zi)) ([] : List Za))
 else
 Zcn Za8 t >>= fun r92 =>
 some r92)
 partial_fixpoint
def ZbK.M (s : (List Ze)) (Zfx : Nat) (t : Za) (Za8 : (List (ByteArray × Za))) (ZcT : (List Ze)) (r : Za) : Prop :=
 ∀ Zfq : List Ze, s = Zfq ++ ZcT → Zfx = Zfq.length → s.length ≤ maxLen → AWL Tryz.prog 65 (Code.sub (Zq Tryz.f44) [1, 1, 1, 0, 1, 0, 0]) (Code.cont Tryz.prog 65 (Zq Tryz.f44) [1, 1, 1, 0, 1, 0] (ZbS tab Tryz.f44.results (ZbX (.agg [.v (.int .i64 r.fOp), .v (.string r.fName), .sl (r.fBound.fArgs.map Zi.cells), .sl (r.fKids.map Za.cells)]) []))) ⟨[(3, .ptr 3 0), (4, .ptr 4 0), (5, .c none (.rf 16)), (17, .c none (.sl (s.map Ze.cells))), (18, .c none (.v (.int .i64 ((s.length : Nat) : Int)))), (19, .c none (.v (.int .i64 ((Zfx : Nat) : Int))))], [(3, [(none, .v (.int .i64 t.fOp)), (none, .v (.string t.fName)), (none, .sl (t.fBound.fArgs.map Zi.cells)), (none, .sl (t.fKids.map Za.cells))]), (4, [(none, .v (.int .i64 0)), (none, .v (.string (ByteArray.mk #[]))), (none, .nils), (none, .nils)]), (16, [(none, .ob 183 (Za8.map (ZdK c_S Za.cells)))])]⟩
theorem Zni (s : (List Ze)) (Zfx : Nat) (t : Za) (Za8 : (List (ByteArray × Za))) (ZcT : (List Ze)) : ∀ r, ZbK s Zfx t Za8 ZcT = some r → ZbK.M s Zfx t Za8 ZcT r := by
 refine ZbK.partial_correctness s t (fun Zfx Za8 ZcT r => ZbK.M s Zfx t Za8 ZcT r) ?_ Zfx Za8 ZcT
 intro types_Subst__l1' Zil Zfx Za8 ZcT r hF
 have Zi6 := fun (_s : (List Ze)) (Zfx : Nat) (_t : Za) (Za8 : (List (ByteArray × Za))) (ZcT : (List Ze)) => Zil Zfx Za8 ZcT
 clear Zil
 unfold ZbK.M
 intro Zfq Zko Zkj hlen45
 refine AWL.step ?_
 refine AWP.seq ?_
 refine ns ?_
 refine AWP.seq ?_
 refine nw ?_
 refine ZS Zko Zkj (fun x73 Zq9 Zvg ZAV ZyM => ?_) (fun Zvg => ?_)
 ·subst Zvg
  refine nw ?_
  refine AWP.seq ?_
  refine AWP.block ?_
  refine AWP.seq ?_
  refine nn ?_
  refine sr (Zau (f := Ze.cells) (Ze.cells_eq x73) ZAV) ?_
  refine st ?_
  refine AWP.seq ?_
  refine AWP.seq ?_
  obtain ⟨r80, ZDZ, hF⟩ := bind_some hF
  obtain ⟨c82, ZlI, hF⟩ := bind_some hF
  refine AWP.cutN (fun T => ∃ r, WS r T ⟨[(3, .ptr 3 0), (4, .ptr 4 0), (5, .c none (.rf 16)), (7, .ptr 7 0), (17, .c none (.sl (s.map Ze.cells))), (18, .c none (.v (.int .i64 ((s.length : Nat) : Int)))), (19, .c none (.v (.int .i64 ((Zfx : Nat) : Int)))), (32, .c none (.v (.bool c82)))], [(3, [(none, .v (.int .i64 t.fOp)), (none, .v (.string t.fName)), (none, .sl (t.fBound.fArgs.map Zi.cells)), (none, .sl (t.fKids.map Za.cells))]), (4, [(none, .v (.int .i64 0)), (none, .v (.string (ByteArray.mk #[]))), (none, .nils), (none, .nils)]), (7, [(none, .v (.string x73.fName)), (none, .v (.int .i64 x73.fType.fOp)), (none, .v (.string x73.fType.fName)), (none, .sl (x73.fType.fBound.fArgs.map Zi.cells)), (none, .sl (x73.fType.fKids.map Za.cells))]), (16, [(none, .ob 183 (Za8.map (ZdK c_S Za.cells)))])]⟩) ?_ (fun T hw => ?_)
  ·refine ns ?_
   refine e3 ?_
   refine st ?_
   refine cm (Zk.weak (rn []) (Ze7 x73.fName _ ZDZ) rfl (WS.mk (tc Zc) Zb)) ?_
   refine st ?_
   refine Zl false (fun ZrF => ?_) (fun ZrF => ?_)
   ·have ZlI := ift ZrF ZlI
    (conv => whnf)
    obtain rfl := Zg ZlI
    refine st ?_
    exact wx (WS.mk (tp (tp (tc (tp (tc (tc (tc (Zd (Zs (web ZrF)) Zc)))))))) (Zf rfl (cc (cc (cc (cc Zh)))) (Zf rfl (cc (cc (cc (cc Zh)))) (Zf rfl (cc (cc (cc (cc (cc Zh))))) (Zf rfl (cc Zh) Zb)))))
   ·have ZlI := ife ZrF ZlI
    obtain ⟨r81, ZCR, ZlI⟩ := bind_some ZlI
    (conv => whnf)
    refine st ?_
    refine e3 ?_
    refine st ?_
    refine cm (Zk.weak (rn []) (ZeF x73.fType _ ZCR) rfl (WS.mk (Zd (Zt (lc (lc (lc (lc Zo))))) Zc) Zb)) ?_
    refine st ?_
    obtain rfl := Zg ZlI
    refine st ?_
    exact wx (WS.mk (tp (tp (tc (tp (tc (tc (tc (Zd (Zs (web ZrF)) Zc)))))))) (Zf rfl (cc (cc (cc (cc Zh)))) (Zf rfl (cc (cc (cc (cc Zh)))) (Zf rfl (cc (cc (cc (cc (cc Zh))))) (Zf rfl (cc Zh) Zb)))))
  obtain ⟨r0, hw⟩ := hw
  (conv => whnf)
  refine AWP.weak r0 hw ?_
  refine nw ?_
  refine Zj hF (fun Zz1 hF => ?_) (fun Zz1 hF => ?_)
  ·refine AWP.seq ?_
   refine ns ?_
   obtain rfl := Zg hF
   refine ns ?_
   refine Exists.intro [] ?_
   refine st ?_
   exact wx (WS.mk (Zd (Zt (lc (lc (ZaD WE.nil (ZaD WE.nil Zo))))) Zc) Zb)
  ·refine nw ?_
   refine AWP.seq ?_
   obtain ⟨r85, ZCy, hF⟩ := bind_some hF
   refine ns ?_
   refine Zhd (m := Za8) (k := x73.fName) ZgW (ev := Za.cells) ZCy (Za.cells_eq r85.1) (fun x => Za.cells_len x) rfl rfl (Zea (Za.cells_eq (Za.mk 0 (ByteArray.mk #[]) (Zi.mk ([] : List Zi)) ([] : List Za))) (lc (lc (ZaD WE.nil (ZaD WE.nil Zo))))) ?_
   refine st ?_
   refine AWP.seq ?_
   refine ns ?_
   refine nw ?_
   refine Zj hF (fun ZCa hF => ?_) (fun ZCa hF => ?_)
   ·refine ns ?_
    refine ZnT (m := Za8) (k := x73.fName) (v := x73.fType) ZgW (ev := Za.cells) (Zea (Za.cells_eq x73.fType) (lc (lc (lc (lc Zo))))) ?_
    refine st ?_
    refine ns ?_
    refine AWL.weak (rn []) ?_ (Zi6 s (Zfx + 1) t (Zhl Za8 x73.fName x73.fType) Zq9 _ hF (Zfq ++ [x73]) (by rw [Zko]; simp) (by rw [Zkj]; simp) hlen45)
    exact (WS.mk (tp (tp (tc (tc (tc (Zd (Zs (Zdd (ZZ hlen45 ZyM))) Zc)))))) (Zf rfl (cc (cc (cc (cc Zh)))) (Zf rfl (cc (cc (cc (cc Zh)))) (Zf rfl (cc Zh) Zb))))
   ·refine nw ?_
    refine ns ?_
    refine AWL.weak (rn []) ?_ (Zi6 s (Zfx + 1) t Za8 Zq9 _ hF (Zfq ++ [x73]) (by rw [Zko]; simp) (by rw [Zkj]; simp) hlen45)
    exact (WS.mk (tp (tp (tc (tc (tc (Zd (Zs (Zdd (ZZ hlen45 ZyM))) Zc)))))) (Zf rfl (cc (cc (cc (cc Zh)))) (Zf rfl (cc (cc (cc (cc Zh)))) (Zf rfl (cc Zh) Zb))))
 ·subst Zvg
  refine nw ?_
  refine AWP.seq ?_
  refine AWP.seq ?_
  obtain ⟨r89, ZCF, hF⟩ := bind_some hF
  refine ns ?_
  refine Exists.intro [] (Exists.intro [(16, 1000)] (Exists.intro [] ?_))
  refine st ?_
  refine cm (Zk.weak (rn []) (Zj0 Za8 t _ ZCF) rfl (WS.mk (tc (Zd (Zt (lc (lc (lc (lc Zo))))) Zc)) (Zf rfl (cc Zh) Zb))) ?_
  refine st ?_
  refine AWP.seq ?_
  refine AWP.cutN (fun T => ∃ r, WS r T ⟨[(3, .ptr 3 0), (4, .ptr 4 0), (5, .c none (.rf 16)), (60, .c none (.v (.bool ((decide (r89.1 > 20000)) || (decide (r89.2 > 100))))))], [(3, [(none, .v (.int .i64 t.fOp)), (none, .v (.string t.fName)), (none, .sl (t.fBound.fArgs.map Zi.cells)), (none, .sl (t.fKids.map Za.cells))]), (4, [(none, .v (.int .i64 0)), (none, .v (.string (ByteArray.mk #[]))), (none, .nils), (none, .nils)]), (16, [(none, .ob 183 (Za8.map (ZdK c_S Za.cells)))])]⟩) ?_ (fun T hw => ?_)
  ·refine ns ?_
   refine Zl false (fun ZvQ => ?_) (fun ZvQ => ?_)
   ·(conv => whnf)
    refine st ?_
    exact wx (WS.mk (tp (tp (tc (Zd (Zs (web ZvQ)) Zc)))) (Zf rfl (cc (cc (cc (cc Zh)))) (Zf rfl (cc (cc (cc (cc Zh)))) (Zf rfl (cc Zh) Zb))))
   ·(conv => whnf)
    refine st ?_
    exact wx (WS.mk (tp (tp (tc (Zd (Zs (web ZvQ)) Zc)))) (Zf rfl (cc (cc (cc (cc Zh)))) (Zf rfl (cc (cc (cc (cc Zh)))) (Zf rfl (cc Zh) Zb))))
  obtain ⟨r0, hw⟩ := hw
  (conv => whnf)
  refine AWP.weak r0 hw ?_
  refine nw ?_
  refine Zj hF (fun ZC6 hF => ?_) (fun ZC6 hF => ?_)
  ·refine AWP.seq ?_
   refine ns ?_
   obtain rfl := Zg hF
   refine ns ?_
   refine Exists.intro [] ?_
   refine st ?_
   exact wx (WS.mk (Zd (Zt (lc (lc (ZaD WE.nil (ZaD WE.nil Zo))))) Zc) Zb)
  ·refine nw ?_
   refine AWP.seq ?_
   obtain ⟨r92, Zyp, hF⟩ := bind_some hF
   refine ns ?_
   refine Exists.intro [] (Exists.intro [(16, 1000)] (Exists.intro [] ?_))
   refine st ?_
   refine cm (Zk.weak (rn []) (ZlH Za8 t _ Zyp) rfl (WS.mk (tc (Zd (Zt (lc (lc (lc (lc Zo))))) Zc)) (Zf rfl (cc Zh) Zb))) ?_
   refine st ?_
   obtain rfl := Zg hF
   refine ns ?_
   refine Exists.intro [] ?_
   refine st ?_
   exact wx (WS.mk (Zd (Zt (lc (lc (lc (lc Zo))))) Zc) Zb)

def ZdS (s : (List Ze)) (t : Za) : Option (Za) :=
 ZbT t >>= fun r3 =>
 if (r3 != 0) = true then
 some (Za.mk 0 (ByteArray.mk #[]) (Zi.mk ([] : List Zi)) ([] : List Za))
 else
 ZbK s 0 t ([] : List (ByteArray × Za)) s
def ZdS.M (s : (List Ze)) (t : Za) (r : Za) : Prop :=
 Zk Tryz.prog 44 [.c none (.sl (s.map Ze.cells)), .agg [.v (.int .i64 t.fOp), .v (.string t.fName), .sl (t.fBound.fArgs.map Zi.cells), .sl (t.fKids.map Za.cells)]] [] (fun d b => d = .agg [.v (.int .i64 r.fOp), .v (.string r.fName), .sl (r.fBound.fArgs.map Zi.cells), .sl (r.fKids.map Za.cells)] ∧ b = [])
theorem ZpL (s : (List Ze)) (t : Za) (r : Za) (hF : ZdS s t = some r) : ZdS.M s t r := by
 unfold ZdS at hF
 unfold ZdS.M
 refine en Tryz.func44 ?_
 refine AWP.seq ?_
 refine ns ?_
 refine AWP.seq ?_
 refine AWP.seq ?_
 obtain ⟨r3, hr3, hF⟩ := bind_some hF
 refine ns ?_
 refine e3 ?_
 refine st ?_
 refine cm (Zk.weak (rn []) (ZeF t _ hr3) rfl (WS.mk (Zd (Zt (lc (lc (lc (lc Zo))))) Zc) Zb)) ?_
 refine st ?_
 refine nw ?_
 refine Zj hF (fun hc4 hF => ?_) (fun hc4 hF => ?_)
 ·refine AWP.seq ?_
  refine ns ?_
  obtain rfl := Zg hF
  refine ns ?_
  refine Exists.intro [] ?_
  refine st ?_
  exact wx (WS.mk (Zd (Zt (lc (lc (ZaD WE.nil (ZaD WE.nil Zo))))) Zc) Zb)
 ·refine nw ?_
  refine AWP.seq ?_
  refine ns ?_
  refine AWP.seq ?_
  refine AWP.seq ?_
  refine ns ?_
  intro hlen45
  (try rw [List.length_map] at hlen45)
  (try rw [List.length_map])
  refine st ?_
  refine AWP.block ?_
  refine AWP.loop ?_
  refine AWL.weak (rn []) ?_ (Zni s 0 t ([] : List (ByteArray × Za)) s _ hF ([]) rfl rfl hlen45)
  exact (WS.mk (tp (tp (tc (tc (tc (tc Zc)))))) (Zf rfl (cc (cc (cc (cc Zh)))) (Zf rfl (cc (cc (cc (cc Zh)))) (Zf rfl (cc Zh) Zb))))

def Zat (s : (List Ze)) (name_ : ByteArray) (i_6 : Nat) (ZeJ : (List Ze)) : Option (Za × Bool) :=
 (match ZeJ with
 | x39 :: ZvK =>
 if (x39.fName.toList == name_.toList) = true then
 some (x39.fType, true)
 else
 Zat s name_ (i_6 + 1) ZvK
 | [] =>
 some (Za.mk 0 (ByteArray.mk #[]) (Zi.mk ([] : List Zi)) ([] : List Za), false))
 partial_fixpoint
def Zat.M (s : (List Ze)) (name_ : ByteArray) (i_6 : Nat) (ZeJ : (List Ze)) (r : Za × Bool) : Prop :=
 ∀ Zio : List Ze, s = Zio ++ ZeJ → i_6 = Zio.length → AWL Tryz.prog 26 (Code.sub (Zq Tryz.f61) [1, 0, 1, 0, 0]) (Code.cont Tryz.prog 26 (Zq Tryz.f61) [1, 0, 1, 0] (ZbS tab Tryz.f61.results (ZbX (.tup [.agg [.v (.int .i64 r.1.fOp), .v (.string r.1.fName), .sl (r.1.fBound.fArgs.map Zi.cells), .sl (r.1.fKids.map Za.cells)], .c (.v (.bool r.2))]) []))) ⟨[(0, .c none (.sl (s.map Ze.cells))), (1, .c none (.v (.string name_))), (4, .ptr 4 0), (6, .c none (.v (.int .i64 ((i_6 : Nat) : Int))))], [(4, [(none, .v (.int .i64 0)), (none, .v (.string (ByteArray.mk #[]))), (none, .nils), (none, .nils)])]⟩
theorem Zle (s : (List Ze)) (name_ : ByteArray) (i_6 : Nat) (ZeJ : (List Ze)) : ∀ r, Zat s name_ i_6 ZeJ = some r → Zat.M s name_ i_6 ZeJ r := by
 refine Zat.partial_correctness s name_ (fun i_6 ZeJ r => Zat.M s name_ i_6 ZeJ r) ?_ i_6 ZeJ
 intro lazycref04_Find_l1' Zhj i_6 ZeJ r hF
 have Zlr := fun (_s : (List Ze)) (_name_ : ByteArray) (i_6 : Nat) (ZeJ : (List Ze)) => Zhj i_6 ZeJ
 clear Zhj
 unfold Zat.M
 intro Zio Zp7 Zry
 refine AWL.step ?_
 refine AWP.seq ?_
 refine AWP.seq ?_
 refine ns ?_
 intro hlen38
 (try rw [List.length_map] at hlen38)
 (try rw [List.length_map])
 refine st ?_
 refine nw ?_
 refine ZS Zp7 Zry (fun x39 ZvK Zvv ZA5 ZBY => ?_) (fun Zvv => ?_)
 ·subst Zvv
  refine nw ?_
  refine AWP.seq ?_
  refine AWP.block ?_
  refine AWP.seq ?_
  refine nn ?_
  refine sr (Zau (f := Ze.cells) (Ze.cells_eq x39) ZA5) ?_
  refine st ?_
  refine nw ?_
  refine Zj hF (fun Zv5 hF => ?_) (fun Zv5 hF => ?_)
  ·refine AWP.seq ?_
   refine nn ?_
   refine sr (Zau (f := Ze.cells) (Ze.cells_eq x39) ZA5) ?_
   refine st ?_
   obtain rfl := Zg hF
   refine ns ?_
   refine Exists.intro [] ?_
   refine st ?_
   exact wx (WS.mk (Zd (ZdE (Zzi (lc (lc (lc (lc Zo)))) (Zc6 (WE.refl _) ZdF))) Zc) Zb)
  ·refine nw ?_
   refine ns ?_
   refine AWL.weak (rn []) ?_ (Zlr s name_ (i_6 + 1) ZvK _ hF (Zio ++ [x39]) (by rw [Zp7]; simp) (by rw [Zry]; simp))
   exact (WS.mk (tc (tc (tp (Zd (Zs (Zdd (ZZ hlen38 ZBY))) Zc)))) (Zf rfl (cc (cc (cc (cc Zh)))) Zb))
 ·subst Zvv
  refine nw ?_
  refine AWP.seq ?_
  refine ns ?_
  obtain rfl := Zg hF
  refine ns ?_
  refine Exists.intro [] ?_
  refine st ?_
  exact wx (WS.mk (Zd (ZdE (Zzi (lc (lc (ZaD WE.nil (ZaD WE.nil Zo)))) (Zc6 (WE.refl _) ZdF))) Zc) Zb)

def ZaI (s : (List Ze)) (name_ : ByteArray) : Option (Za × Bool) :=
 Zat s name_ 0 s
def ZaI.M (s : (List Ze)) (name_ : ByteArray) (r : Za × Bool) : Prop :=
 Zk Tryz.prog 61 [.c none (.sl (s.map Ze.cells)), .c none (.v (.string name_))] [] (fun d b => d = .tup [.agg [.v (.int .i64 r.1.fOp), .v (.string r.1.fName), .sl (r.1.fBound.fArgs.map Zi.cells), .sl (r.1.fKids.map Za.cells)], .c (.v (.bool r.2))] ∧ b = [])
theorem Zgv (s : (List Ze)) (name_ : ByteArray) (r : Za × Bool) (hF : ZaI s name_ = some r) : ZaI.M s name_ r := by
 unfold ZaI at hF
 unfold ZaI.M
 refine en Tryz.func61 ?_
 refine AWP.seq ?_
 refine ns ?_
 refine AWP.seq ?_
 refine AWP.seq ?_
 refine ns ?_
 refine AWP.block ?_
 refine AWP.loop ?_
 refine AWL.weak (rn []) ?_ (Zle s name_ 0 s _ hF ([]) rfl rfl)
 exact (WS.mk (tc (tc (tp (tc Zc)))) (Zf rfl (cc (cc (cc (cc Zh)))) Zb))

mutual
def ZM (s : (List Ze)) (Z2 : (List ByteArray)) (t : Za) : Option (Int × Int) :=
 (if (t.fOp == 1) = true then Za0 Z2 t.fName >>= fun r53 =>
 some (!r53) else some false) >>= fun c54 =>
 if c54 = true then
 ZaI s t.fName >>= fun r57 =>
 if r57.2 = true then
 Zai r57.1 >>= fun r61 =>
 Zaf r57.1 >>= fun r62 =>
 some (r61, r62)
 else
 ZH s Z2 t
 else
 ZH s Z2 t
 partial_fixpoint
def ZH (s : (List Ze)) (Z2 : (List ByteArray)) (t : Za) : Option (Int × Int) :=
 if (t.fOp == 4) = true then
 ZK ((0 + Z2.length) * 16 ≤ 140737488355328) >>= fun _ =>
 ZK ((Z2.length + ([t.fName]).length) * 16 ≤ 140737488355328) >>= fun _ =>
 ZG s (Z2 ++ ([t.fName])) t
 else
 ZG s Z2 t
 partial_fixpoint
def ZG (s : (List Ze)) (ZR : (List ByteArray)) (t : Za) : Option (Int × Int) :=
 Zw s ZR 1 0 0 t t.fKids
 partial_fixpoint
def Zw (s : (List Ze)) (ZR : (List ByteArray)) (ZeX : Int) (Zdw : Int) (ZhT : Nat) (t : Za) (Zdr : (List Za)) : Option (Int × Int) :=
 (match Zdr with
 | x46 :: ZCV =>
 ZM s ZR x46 >>= fun r49 =>
 Zw s ZR (IntKind.i64.wrap (ZeX + r49.1)) (if r49.2 > Zdw then r49.2 else Zdw) (ZhT + 1) t ZCV
 | [] =>
 some (ZeX, IntKind.i64.wrap (Zdw + 1)))
 partial_fixpoint
end
def ZM.M (s : (List Ze)) (Z2 : (List ByteArray)) (t : Za) (r : Int × Int) : Prop :=
 Zk Tryz.prog 38 [.c none (.sl (s.map Ze.cells)), .c none (.sl (Z2.map c_S)), .agg [.v (.int .i64 t.fOp), .v (.string t.fName), .sl (t.fBound.fArgs.map Zi.cells), .sl (t.fKids.map Za.cells)]] [] (fun d b => d = .tup [.c (.v (.int .i64 r.1)), .c (.v (.int .i64 r.2))] ∧ b = [])
def ZH.M (s : (List Ze)) (Z2 : (List ByteArray)) (t : Za) (r : Int × Int) : Prop :=
 AWP Tryz.prog 77 (Code.sub (Zq Tryz.f38) [1, 1]) (Code.cont Tryz.prog 77 (Zq Tryz.f38) [1, 1] (ZbS tab Tryz.f38.results (ZbX (.tup [.c (.v (.int .i64 r.1)), .c (.v (.int .i64 r.2))]) []))) ⟨[(0, .c none (.sl (s.map Ze.cells))), (1, .c none (.sl (Z2.map c_S))), (5, .ptr 5 0)], [(5, [(none, .v (.int .i64 t.fOp)), (none, .v (.string t.fName)), (none, .sl (t.fBound.fArgs.map Zi.cells)), (none, .sl (t.fKids.map Za.cells))])]⟩
def ZG.M (s : (List Ze)) (ZR : (List ByteArray)) (t : Za) (r : Int × Int) : Prop :=
 AWP Tryz.prog 77 (Code.sub (Zq Tryz.f38) [1, 1, 1]) (Code.cont Tryz.prog 77 (Zq Tryz.f38) [1, 1, 1] (ZbS tab Tryz.f38.results (ZbX (.tup [.c (.v (.int .i64 r.1)), .c (.v (.int .i64 r.2))]) []))) ⟨[(0, .c none (.sl (s.map Ze.cells))), (1, .c none (.sl (ZR.map c_S))), (5, .ptr 5 0)], [(5, [(none, .v (.int .i64 t.fOp)), (none, .v (.string t.fName)), (none, .sl (t.fBound.fArgs.map Zi.cells)), (none, .sl (t.fKids.map Za.cells))])]⟩
def Zw.M (s : (List Ze)) (ZR : (List ByteArray)) (ZeX : Int) (Zdw : Int) (ZhT : Nat) (t : Za) (Zdr : (List Za)) (r : Int × Int) : Prop :=
 ∀ ZgV : List Za, t.fKids = ZgV ++ Zdr → ZhT = ZgV.length → AWL Tryz.prog 77 (Code.sub (Zq Tryz.f38) [1, 1, 1, 1, 0, 1, 0, 0]) (Code.cont Tryz.prog 77 (Zq Tryz.f38) [1, 1, 1, 1, 0, 1, 0] (ZbS tab Tryz.f38.results (ZbX (.tup [.c (.v (.int .i64 r.1)), .c (.v (.int .i64 r.2))]) []))) ⟨[(0, .c none (.sl (s.map Ze.cells))), (1, .c none (.sl (ZR.map c_S))), (5, .ptr 5 0), (11, .c none (.v (.int .i64 ZeX))), (12, .c none (.v (.int .i64 Zdw))), (13, .c none (.v (.int .i64 ((ZhT : Nat) : Int))))], [(5, [(none, .v (.int .i64 t.fOp)), (none, .v (.string t.fName)), (none, .sl (t.fBound.fArgs.map Zi.cells)), (none, .sl (t.fKids.map Za.cells))])]⟩
theorem Zkx (s : (List Ze)) : (∀ (Z2 : (List ByteArray)) (t : Za), ∀ r, ZM s Z2 t = some r → ZM.M s Z2 t r) ∧ (∀ (Z2 : (List ByteArray)) (t : Za), ∀ r, ZH s Z2 t = some r → ZH.M s Z2 t r) ∧ (∀ (ZR : (List ByteArray)) (t : Za), ∀ r, ZG s ZR t = some r → ZG.M s ZR t r) ∧ (∀ (ZR : (List ByteArray)) (ZeX : Int) (Zdw : Int) (ZhT : Nat) (t : Za) (Zdr : (List Za)), ∀ r, Zw s ZR ZeX Zdw ZhT t Zdr = some r → Zw.M s ZR ZeX Zdw ZhT t Zdr r) := by
 refine ZM.mutual_partial_correctness s (fun Z2 t r => ZM.M s Z2 t r) (fun Z2 t r => ZH.M s Z2 t r) (fun ZR t r => ZG.M s ZR t r) (fun ZR ZeX Zdw ZhT t Zdr r => Zw.M s ZR ZeX Zdw ZhT t Zdr r) ?_ ?_ ?_ ?_
 ·intro lazycref04_measure_k1' ZfP Z2 t r hF
  have Zgk := fun (_s : (List Ze)) (Z2 : (List ByteArray)) (t : Za) => ZfP Z2 t
  clear ZfP
  unfold ZM.M
  refine en Tryz.func38 ?_
  refine AWP.seq ?_
  refine ns ?_
  refine AWP.seq ?_
  refine AWP.seq ?_
  obtain ⟨c54, ZeN, hF⟩ := bind_some hF
  refine AWP.cutN (fun T => ∃ r, WS r T ⟨[(0, .c none (.sl (s.map Ze.cells))), (1, .c none (.sl (Z2.map c_S))), (5, .ptr 5 0), (25, .c none (.v (.bool c54)))], [(5, [(none, .v (.int .i64 t.fOp)), (none, .v (.string t.fName)), (none, .sl (t.fBound.fArgs.map Zi.cells)), (none, .sl (t.fKids.map Za.cells))])]⟩) ?_ (fun T hw => ?_)
  ·refine ns ?_
   refine Zl true (fun ZoZ => ?_) (fun ZoZ => ?_)
   ·have ZeN := ift ZoZ ZeN
    obtain ⟨r53, ZCL, ZeN⟩ := bind_some ZeN
    (conv => whnf)
    refine st ?_
    refine e3 ?_
    refine st ?_
    refine cm (Zk.weak (rn []) (Zep Z2 t.fName _ ZCL) rfl (WS.mk (tc (tc Zc)) Zb)) ?_
    refine st ?_
    obtain rfl := Zg ZeN
    refine st ?_
    exact wx (WS.mk (tc (tc (tp (Zd (Zs (web ZoZ)) Zc)))) (Zf rfl (cc (cc (cc (cc Zh)))) Zb))
   ·have ZeN := ife ZoZ ZeN
    (conv => whnf)
    obtain rfl := Zg ZeN
    refine st ?_
    exact wx (WS.mk (tc (tc (tp (Zd (Zs (web ZoZ)) Zc)))) (Zf rfl (cc (cc (cc (cc Zh)))) Zb))
  obtain ⟨r0, hw⟩ := hw
  (conv => whnf)
  refine AWP.weak r0 hw ?_
  refine nw ?_
  refine Zj hF (fun Zhm hF => ?_) (fun Zhm hF => ?_)
  ·refine AWP.seq ?_
   obtain ⟨r57, ZGJ, hF⟩ := bind_some hF
   refine ns ?_
   refine e3 ?_
   refine st ?_
   refine cm (Zk.weak (rn []) (Zgv s t.fName _ ZGJ) rfl (WS.mk (tc (tc Zc)) Zb)) ?_
   refine st ?_
   refine AWP.seq ?_
   refine ns ?_
   refine nw ?_
   refine Zj hF (fun Znm hF => ?_) (fun Znm hF => ?_)
   ·refine AWP.seq ?_
    obtain ⟨r61, ZAt, hF⟩ := bind_some hF
    obtain ⟨r62, ZCm, hF⟩ := bind_some hF
    refine nn ?_
    refine Or.inl (Or.inr (Exists.intro [2] (Exists.intro [[36]] (Exists.intro [8] (Exists.intro [8, 36] (Exists.intro [36] (Exists.intro [0, 1, 3, 4, 5] (And.intro (by decide +kernel) ?_))))))))
    refine dp ?_
    refine st ?_
    refine e3 ?_
    refine st ?_
    refine cm (Zk.weak (rn []) (Zgy r57.1 _ ZAt) rfl (WS.mk (Zd (Zt (lc (lc (lc (lc Zo))))) Zc) Zb)) ?_
    refine st ?_
    refine e3 ?_
    refine st ?_
    refine cm (Zk.weak (rn []) (ZfY r57.1 _ ZCm) rfl (WS.mk (Zd (Zt (lc (lc (lc (lc Zo))))) Zc) Zb)) ?_
    refine st ?_
    obtain rfl := Zg hF
    refine ns ?_
    refine Exists.intro [] ?_
    refine st ?_
    exact wx (WS.mk (Zd (ZdE (Zc6 (WE.refl _) (Zc6 (WE.refl _) ZdF))) Zc) Zb)
   ·refine nw ?_
    refine AWP.weak (rn []) ?_ (Zgk s Z2 t _ hF)
    exact (WS.mk (tc (tc (tp Zc))) (Zf rfl (cc (cc (cc (cc Zh)))) Zb))
  ·refine nw ?_
   refine AWP.weak (rn []) ?_ (Zgk s Z2 t _ hF)
   exact (WS.mk (tc (tc (tp Zc))) (Zf rfl (cc (cc (cc (cc Zh)))) Zb))
 ·intro lazycref04_measure_k2' ZfQ Z2 t r hF
  have Zgd := fun (_s : (List Ze)) (ZR : (List ByteArray)) (t : Za) => ZfQ ZR t
  clear ZfQ
  unfold ZH.M
  refine AWP.seq ?_
  refine AWP.seq ?_
  refine ns ?_
  refine nw ?_
  refine Zj hF (fun Zfk hF => ?_) (fun Zfk hF => ?_)
  ·refine AWP.seq ?_
   refine ns ?_
   refine AWP.seq ?_
   obtain ⟨ZGh, hF⟩ := Zy hF
   refine nn ?_
   refine sa (fun l => ZbW l (fun x => Zfg x)) ZGh ?_
   refine Exists.intro _ (And.intro (WE.refl _) ?_)
   (try rw [List.nil_append])
   refine st ?_
   refine AWP.seq ?_
   obtain ⟨ZHc, hF⟩ := Zy hF
   refine ns ?_
   refine Exists.intro _ (And.intro (Zcm (f := c_S) (lc Zo) (Zaw (f := c_S))) ?_)
   refine sa (fun l => ZbW l (fun x => Zfg x)) ZHc ?_
   refine Exists.intro _ (And.intro (WE.refl _) ?_)
   rw [← List.map_append]
   refine st ?_
   refine ns ?_
   refine AWP.weak (rn []) ?_ (Zgd s (Z2 ++ ([t.fName])) t _ hF)
   exact (WS.mk (tc (tc (tp Zc))) (Zf rfl (cc (cc (cc (cc Zh)))) Zb))
  ·refine nw ?_
   refine AWP.weak (rn []) ?_ (Zgd s Z2 t _ hF)
   exact (WS.mk (tc (tc (tp Zc))) (Zf rfl (cc (cc (cc (cc Zh)))) Zb))
 ·intro lazycref04_measure_l3' ZcH ZR t r hF
  have Zev := fun (_s : (List Ze)) (ZR : (List ByteArray)) (ZeX : Int) (Zdw : Int) (ZhT : Nat) (t : Za) (Zdr : (List Za)) => ZcH ZR ZeX Zdw ZhT t Zdr
  clear ZcH
  unfold ZG.M
  refine AWP.seq ?_
  refine ns ?_
  refine AWP.seq ?_
  refine AWP.seq ?_
  refine ns ?_
  refine AWP.block ?_
  refine AWP.loop ?_
  refine AWL.weak (rn []) ?_ (Zev s ZR 1 0 0 t t.fKids _ hF ([]) rfl rfl)
  exact (WS.mk (tc (tc (tp (tc (tc (tc Zc)))))) (Zf rfl (cc (cc (cc (cc Zh)))) Zb))
 ·intro lazycref04_measure' lazycref04_measure_l3' Zg8 ZcH ZR ZeX Zdw ZhT t Zdr r hF
  have Zlf := fun (_s : (List Ze)) (Z2 : (List ByteArray)) (t : Za) => Zg8 Z2 t
  clear Zg8
  have Zev := fun (_s : (List Ze)) (ZR : (List ByteArray)) (ZeX : Int) (Zdw : Int) (ZhT : Nat) (t : Za) (Zdr : (List Za)) => ZcH ZR ZeX Zdw ZhT t Zdr
  clear ZcH
  unfold Zw.M
  intro ZgV Zon ZnX
  refine AWL.step ?_
  refine AWP.seq ?_
  refine AWP.seq ?_
  refine ns ?_
  intro hlen45
  (try rw [List.length_map] at hlen45)
  (try rw [List.length_map])
  refine st ?_
  refine nw ?_
  refine ZS Zon ZnX (fun x46 ZCV ZB0 ZHO ZGe => ?_) (fun ZB0 => ?_)
  ·subst ZB0
   refine nw ?_
   refine AWP.seq ?_
   refine AWP.block ?_
   refine AWP.seq ?_
   obtain ⟨r49, ZzR, hF⟩ := bind_some hF
   refine nn ?_
   refine sr (Zau (f := Za.cells) (Za.cells_eq x46) ZHO) ?_
   refine st ?_
   refine e3 ?_
   refine st ?_
   refine cm (Zk.weak (rn []) (Zlf s ZR x46 _ ZzR) rfl (WS.mk (tc (tc (Zd (Zt (lc (lc (lc (lc Zo))))) Zc))) Zb)) ?_
   refine st ?_
   refine AWP.seq ?_
   refine ns ?_
   refine ns ?_
   refine ns ?_
   refine AWL.weak (rn []) ?_ (Zev s ZR (IntKind.i64.wrap (ZeX + r49.1)) (if r49.2 > Zdw then r49.2 else Zdw) (ZhT + 1) t ZCV _ hF (ZgV ++ [x46]) (by rw [Zon]; simp) (by rw [ZnX]; simp))
   exact (WS.mk (tc (tc (tp (tc (tc (Zd (Zs (Zdd (ZZ hlen45 ZGe))) Zc)))))) (Zf rfl (cc (cc (cc (cc Zh)))) Zb))
  ·subst ZB0
   refine nw ?_
   refine AWP.seq ?_
   refine ns ?_
   obtain rfl := Zg hF
   refine ns ?_
   refine Exists.intro [] ?_
   refine st ?_
   exact wx (WS.mk (Zd (ZdE (Zc6 (WE.refl _) (Zc6 (WE.refl _) ZdF))) Zc) Zb)
theorem Zld : ∀ (s : (List Ze)) (Z2 : (List ByteArray)) (t : Za), ∀ r, ZM s Z2 t = some r → ZM.M s Z2 t r := fun s Z2 t => (Zkx s).1 Z2 t

def ZaR (avoid : (List ByteArray)) (b_5 : ByteArray) (k_8 : Nat) : Option (ByteArray) :=
 ZcU b_5 ((k_8 : Nat) : Int) >>= fun r39 =>
 Za0 avoid r39 >>= fun r40 =>
 if r40 = true then
 ZK (k_8 + 1 ≤ 9223372036854775807) >>= fun _ =>
 ZaR avoid b_5 (k_8 + 1)
 else
 ZcU b_5 ((k_8 : Nat) : Int) >>= fun r43 =>
 some r43
 partial_fixpoint
def ZaR.M (avoid : (List ByteArray)) (b_5 : ByteArray) (k_8 : Nat) (r : ByteArray) : Prop :=
 AWL Tryz.prog 28 (Code.sub (Zq Tryz.f63) [1, 1, 1, 1, 0, 0, 0]) (Code.cont Tryz.prog 28 (Zq Tryz.f63) [1, 1, 1, 1, 0, 0] (ZbS tab Tryz.f63.results (ZbX (.c none (.v (.string r))) []))) ⟨[(1, .c none (.sl (avoid.map c_S))), (5, .c none (.v (.string b_5))), (8, .c none (.v (.int .i64 ((k_8 : Nat) : Int))))], []⟩
theorem Zjy (avoid : (List ByteArray)) (b_5 : ByteArray) (k_8 : Nat) : ∀ r, ZaR avoid b_5 k_8 = some r → ZaR.M avoid b_5 k_8 r := by
 refine ZaR.partial_correctness avoid b_5 (fun k_8 r => ZaR.M avoid b_5 k_8 r) ?_ k_8
 intro lazycref04_Renamed_l2' ZfR k_8 r hF
 have ZjB := fun (_avoid : (List ByteArray)) (_b_5 : ByteArray) (k_8 : Nat) => ZfR k_8
 clear ZfR
 unfold ZaR.M
 refine AWL.step ?_
 refine AWP.seq ?_
 refine AWP.seq ?_
 obtain ⟨r39, ZHm, hF⟩ := bind_some hF
 obtain ⟨r40, ZIo, hF⟩ := bind_some hF
 refine ns ?_
 refine e3 ?_
 refine st ?_
 refine cm (Zk.weak (rn []) (ZiO b_5 ((k_8 : Nat) : Int) _ ZHm) rfl (WS.mk (tc (tc Zc)) Zb)) ?_
 refine st ?_
 refine e3 ?_
 refine st ?_
 refine cm (Zk.weak (rn []) (Zep avoid r39 _ ZIo) rfl (WS.mk (tc (tc Zc)) Zb)) ?_
 refine st ?_
 refine nw ?_
 refine Zj hF (fun ZvZ hF => ?_) (fun ZvZ hF => ?_)
 ·refine nw ?_
  refine AWP.block ?_
  obtain ⟨ZH3, hF⟩ := Zy hF
  refine ns ?_
  refine AWL.weak (rn []) ?_ (ZjB avoid b_5 (k_8 + 1) _ hF)
  exact (WS.mk (tc (tc (Zd (Zs (Zdd (Zc8 ZH3))) Zc))) Zb)
 ·refine nw ?_
  refine AWP.seq ?_
  obtain ⟨r43, ZD2, hF⟩ := bind_some hF
  refine ns ?_
  refine e3 ?_
  refine st ?_
  refine cm (Zk.weak (rn []) (ZiO b_5 ((k_8 : Nat) : Int) _ ZD2) rfl (WS.mk (tc (tc Zc)) Zb)) ?_
  refine st ?_
  obtain rfl := Zg hF
  refine ns ?_
  refine Exists.intro [] ?_
  refine st ?_
  exact wx (WS.mk (tc Zc) Zb)

def Zbk (avoid : (List ByteArray)) (b_5 : ByteArray) : Option (ByteArray) :=
 ZaR avoid b_5 1
def Zbk.M (avoid : (List ByteArray)) (b_5 : ByteArray) (r : ByteArray) : Prop :=
 AWP Tryz.prog 28 (Code.sub (Zq Tryz.f63) [1, 1, 1]) (Code.cont Tryz.prog 28 (Zq Tryz.f63) [1, 1, 1] (ZbS tab Tryz.f63.results (ZbX (.c none (.v (.string r))) []))) ⟨[(1, .c none (.sl (avoid.map c_S))), (5, .c none (.v (.string b_5)))], []⟩
theorem Zgb (avoid : (List ByteArray)) (b_5 : ByteArray) (r : ByteArray) (hF : Zbk avoid b_5 = some r) : Zbk.M avoid b_5 r := by
 unfold Zbk at hF
 unfold Zbk.M
 refine AWP.seq ?_
 refine ns ?_
 refine AWP.seq ?_
 refine AWP.block ?_
 refine AWP.loop ?_
 refine AWL.weak (rn []) ?_ (Zjy avoid b_5 1 _ hF)
 exact (WS.mk (tc (tc (tc Zc))) Zb)

def Zcs (name_ : ByteArray) (avoid : (List ByteArray)) : Option (ByteArray) :=
 Zcv name_ >>= fun r1 =>
 if (!r1.2.2) = true then
 Zbk avoid name_
 else
 Zbk avoid r1.1
def Zcs.M (name_ : ByteArray) (avoid : (List ByteArray)) (r : ByteArray) : Prop :=
 Zk Tryz.prog 63 [.c none (.v (.string name_)), .c none (.sl (avoid.map c_S))] [] (fun d b => d = .c none (.v (.string r)) ∧ b = [])
theorem Zlq (name_ : ByteArray) (avoid : (List ByteArray)) (r : ByteArray) (hF : Zcs name_ avoid = some r) : Zcs.M name_ avoid r := by
 unfold Zcs at hF
 unfold Zcs.M
 refine en Tryz.func63 ?_
 refine AWP.seq ?_
 refine ns ?_
 refine AWP.seq ?_
 obtain ⟨r1, hr1, hF⟩ := bind_some hF
 refine ns ?_
 refine e3 ?_
 refine st ?_
 refine cm (Zk.weak (rn []) (Zgw name_ _ hr1) rfl (WS.mk (tc Zc) Zb)) ?_
 refine st ?_
 refine AWP.seq ?_
 refine AWP.seq ?_
 refine ns ?_
 refine nw ?_
 refine Zj hF (fun ZGS hF => ?_) (fun ZGS hF => ?_)
 ·refine ns ?_
  refine AWP.weak (rn []) ?_ (Zgb avoid name_ _ hF)
  exact (WS.mk (tc (tc Zc)) Zb)
 ·refine nw ?_
  refine AWP.weak (rn []) ?_ (Zgb avoid r1.1 _ hF)
  exact (WS.mk (tc (tc Zc)) Zb)

def ZeB (name_ : ByteArray) : Option (Za) :=
 some (Za.mk 1 name_ (Zi.mk ([] : List Zi)) ([] : List Za))
def ZeB.M (name_ : ByteArray) (r : Za) : Prop :=
 Zk Tryz.prog 64 [.c none (.v (.string name_))] [] (fun d b => d = .agg [.v (.int .i64 r.fOp), .v (.string r.fName), .sl (r.fBound.fArgs.map Zi.cells), .sl (r.fKids.map Za.cells)] ∧ b = [])
theorem Zom (name_ : ByteArray) (r : Za) (hF : ZeB name_ = some r) : ZeB.M name_ r := by
 unfold ZeB at hF
 unfold ZeB.M
 refine en Tryz.func64 ?_
 refine AWP.seq ?_
 refine ns ?_
 refine AWP.seq ?_
 refine ns ?_
 obtain rfl := Zg hF
 refine ns ?_
 refine Exists.intro [] ?_
 refine st ?_
 exact wx (WS.mk (Zd (Zt (lc (lc (ZaD WE.nil (ZaD WE.nil Zo))))) Zc) Zb)

def Zc4 (f : Za) (x : Za) : Option (Za) :=
 some (Za.mk 3 (ByteArray.mk #[]) (Zi.mk ([] : List Zi)) ([f, x]))
def Zc4.M (f : Za) (x : Za) (r : Za) : Prop :=
 Zk Tryz.prog 62 [.agg [.v (.int .i64 f.fOp), .v (.string f.fName), .sl (f.fBound.fArgs.map Zi.cells), .sl (f.fKids.map Za.cells)], .agg [.v (.int .i64 x.fOp), .v (.string x.fName), .sl (x.fBound.fArgs.map Zi.cells), .sl (x.fKids.map Za.cells)]] [] (fun d b => d = .agg [.v (.int .i64 r.fOp), .v (.string r.fName), .sl (r.fBound.fArgs.map Zi.cells), .sl (r.fKids.map Za.cells)] ∧ b = [])
theorem ZnV (f : Za) (x : Za) (r : Za) (hF : Zc4 f x = some r) : Zc4.M f x r := by
 unfold Zc4 at hF
 unfold Zc4.M
 refine en Tryz.func62 ?_
 refine AWP.seq ?_
 refine ns ?_
 refine AWP.seq ?_
 refine ns ?_
 refine Exists.intro _ (And.intro (Zcm (f := Za.cells) (Zea (Za.cells_eq f) (lc (lc (lc (lc Zo))))) (Zcm (f := Za.cells) (Zea (Za.cells_eq x) (lc (lc (lc (lc Zo))))) (Zaw (f := Za.cells)))) ?_)
 refine st ?_
 obtain rfl := Zg hF
 refine ns ?_
 refine Exists.intro [] ?_
 refine st ?_
 exact wx (WS.mk (Zd (Zt (lc (lc (ZaD WE.nil (lc Zo))))) Zc) Zb)

mutual
def ZB (s : (List Ze)) (t : Za) : Option (Za) :=
 if (t.fOp == 1) = true then
 ZaI s t.fName >>= fun ZEb =>
 if ZEb.2 = true then
 some ZEb.1
 else
 some t
 else
 if (t.fOp == 3) = true then
 (ixI t.fKids 1) >>= fun ZxP =>
 (ixI t.fKids 0) >>= fun ZxM =>
 ZB s ZxM >>= fun ZAu =>
 ZB s ZxP >>= fun ZAp =>
 Zc4 ZAu ZAp >>= fun ZBC =>
 some ZBC
 else
 if (t.fOp == 4) = true then
 (ixI t.fKids 0) >>= fun ZdJ =>
 Zac ([] : List ByteArray) ([] : List ByteArray) ZdJ >>= fun Zf0 =>
 Zam s Zf0 ([]) ([]) 0 t ZdJ Zf0
 else
 some t
 partial_fixpoint
def Zam (s : (List Ze)) (Zf0 : ((List ByteArray))) (ZeL : (List Ze)) (Zda : (List ByteArray)) (ZlA : Nat) (t : Za) (ZdJ : Za) (ZgS : (List ByteArray)) : Option (Za) :=
 (match ZgS with
 | ZrE :: Zut =>
 ZaI s ZrE >>= fun Zpd =>
 if (Zpd.2 && (!(ZrE.toList == t.fName.toList))) = true then
 ZK ((ZeL.length + ([(Ze.mk ZrE Zpd.1)]).length) * 88 ≤ 140737488355328) >>= fun _ =>
 Zac Zda ([] : List ByteArray) Zpd.1 >>= fun Zyz =>
 Zam s Zf0 (ZeL ++ ([(Ze.mk ZrE Zpd.1)])) Zyz (ZlA + 1) t ZdJ Zut
 else
 Zam s Zf0 ZeL Zda (ZlA + 1) t ZdJ Zut
 | [] =>
 Za0 Zda t.fName >>= fun ZFs =>
 if ZFs = true then
 ZK ((0 + Zf0.length) * 16 ≤ 140737488355328) >>= fun _ =>
 ZK ((Zf0.length + Zda.length) * 16 ≤ 140737488355328) >>= fun _ =>
 Zcs t.fName (Zf0 ++ Zda) >>= fun Zzh =>
 ZeB Zzh >>= fun Zz5 =>
 ZK ((ZeL.length + ([(Ze.mk t.fName Zz5)]).length) * 88 ≤ 140737488355328) >>= fun _ =>
 ZbH (ZeL ++ ([(Ze.mk t.fName Zz5)])) Zzh t ZdJ
 else
 ZbH ZeL t.fName t ZdJ)
 partial_fixpoint
def ZbH (ZeL : (List Ze)) (Zk2 : ByteArray) (t : Za) (ZdJ : Za) : Option (Za) :=
 ZB ZeL ZdJ >>= fun ZCn =>
 some (Za.mk 4 Zk2 t.fBound ([ZCn]))
 partial_fixpoint
end
def ZB.M (s : (List Ze)) (t : Za) (r : Za) : Prop :=
 Zk Tryz.prog 39 [.c none (.sl (s.map Ze.cells)), .agg [.v (.int .i64 t.fOp), .v (.string t.fName), .sl (t.fBound.fArgs.map Zi.cells), .sl (t.fKids.map Za.cells)]] [] (fun d b => d = .agg [.v (.int .i64 r.fOp), .v (.string r.fName), .sl (r.fBound.fArgs.map Zi.cells), .sl (r.fKids.map Za.cells)] ∧ b = [])
def Zam.M (s : (List Ze)) (Zf0 : ((List ByteArray))) (ZeL : (List Ze)) (Zda : (List ByteArray)) (ZlA : Nat) (t : Za) (ZdJ : Za) (ZgS : (List ByteArray)) (r : Za) : Prop :=
 ∀ Zh0 : List ByteArray, Zf0 = Zh0 ++ ZgS → ZlA = Zh0.length → AWL Tryz.prog 122 (Code.sub (Zq Tryz.f39) [1, 0, 1, 0, 1, 1, 1, 1, 1, 0, 1, 1, 1, 1, 0, 1, 0, 0]) (Code.cont Tryz.prog 122 (Zq Tryz.f39) [1, 0, 1, 0, 1, 1, 1, 1, 1, 0, 1, 1, 1, 1, 0, 1, 0] (ZbS tab Tryz.f39.results (ZbX (.agg [.v (.int .i64 r.fOp), .v (.string r.fName), .sl (r.fBound.fArgs.map Zi.cells), .sl (r.fKids.map Za.cells)]) []))) ⟨[(0, .c none (.sl (s.map Ze.cells))), (3, .ptr 3 0), (4, .ptr 4 0), (7, .ptr 7 0), (8, .c (some (8, 9)) (.sl (Zf0.map c_S))), (9, .c (some (9, 45)) (.sl (ZeL.map Ze.cells))), (10, .c (some (10, 9)) (.sl (Zda.map c_S))), (11, .c none (.v (.int .i64 ((ZlA : Nat) : Int))))], [(3, [(none, .v (.int .i64 t.fOp)), (none, .v (.string t.fName)), (none, .sl (t.fBound.fArgs.map Zi.cells)), (none, .sl (t.fKids.map Za.cells))]), (4, [(none, .v (.int .i64 0)), (none, .v (.string (ByteArray.mk #[]))), (none, .nils), (none, .nils)]), (7, [(none, .v (.int .i64 ZdJ.fOp)), (none, .v (.string ZdJ.fName)), (none, .sl (ZdJ.fBound.fArgs.map Zi.cells)), (none, .sl (ZdJ.fKids.map Za.cells))])]⟩
def ZbH.M (ZeL : (List Ze)) (Zk2 : ByteArray) (t : Za) (ZdJ : Za) (r : Za) : Prop :=
 AWP Tryz.prog 122 (Code.sub (Zq Tryz.f39) [1, 0, 1, 0, 1, 1, 1, 1, 1, 0, 1, 1, 1, 1, 1, 1, 1]) (Code.cont Tryz.prog 122 (Zq Tryz.f39) [1, 0, 1, 0, 1, 1, 1, 1, 1, 0, 1, 1, 1, 1, 1, 1, 1] (ZbS tab Tryz.f39.results (ZbX (.agg [.v (.int .i64 r.fOp), .v (.string r.fName), .sl (r.fBound.fArgs.map Zi.cells), .sl (r.fKids.map Za.cells)]) []))) ⟨[(3, .ptr 3 0), (4, .ptr 4 0), (7, .ptr 7 0), (9, .c (some (9, 45)) (.sl (ZeL.map Ze.cells))), (14, .c none (.v (.string Zk2)))], [(3, [(none, .v (.int .i64 t.fOp)), (none, .v (.string t.fName)), (none, .sl (t.fBound.fArgs.map Zi.cells)), (none, .sl (t.fKids.map Za.cells))]), (4, [(none, .v (.int .i64 0)), (none, .v (.string (ByteArray.mk #[]))), (none, .nils), (none, .nils)]), (7, [(none, .v (.int .i64 ZdJ.fOp)), (none, .v (.string ZdJ.fName)), (none, .sl (ZdJ.fBound.fArgs.map Zi.cells)), (none, .sl (ZdJ.fKids.map Za.cells))])]⟩
theorem ZlU : (∀ (s : (List Ze)) (t : Za), ∀ r, ZB s t = some r → ZB.M s t r) ∧ (∀ (s : (List Ze)) (Zf0 : ((List ByteArray))) (ZeL : (List Ze)) (Zda : (List ByteArray)) (ZlA : Nat) (t : Za) (ZdJ : Za) (ZgS : (List ByteArray)), ∀ r, Zam s Zf0 ZeL Zda ZlA t ZdJ ZgS = some r → Zam.M s Zf0 ZeL Zda ZlA t ZdJ ZgS r) ∧ (∀ (ZeL : (List Ze)) (Zk2 : ByteArray) (t : Za) (ZdJ : Za), ∀ r, ZbH ZeL Zk2 t ZdJ = some r → ZbH.M ZeL Zk2 t ZdJ r) := by
 refine ZB.mutual_partial_correctness ZB.M Zam.M ZbH.M ?_ ?_ ?_
 ·intro lazycref04_subst' lazycref04_subst_l1' Zey ZdQ s t r hF
  unfold ZB.M
  refine en Tryz.func39 ?_
  refine AWP.seq ?_
  refine ns ?_
  refine AWP.seq ?_
  refine AWP.seq ?_
  refine ns ?_
  refine AWP.block ?_
  refine AWP.seq ?_
  refine ns ?_
  refine nw ?_
  refine Zj hF (fun ZFW hF => ?_) (fun ZFW hF => ?_)
  ·refine AWP.seq ?_
   obtain ⟨ZEb, ZFz, hF⟩ := bind_some hF
   refine ns ?_
   refine e3 ?_
   refine st ?_
   refine cm (Zk.weak (rn []) (Zgv s t.fName _ ZFz) rfl (WS.mk (tc (tc Zc)) Zb)) ?_
   refine st ?_
   refine AWP.seq ?_
   refine AWP.seq ?_
   refine ns ?_
   refine nw ?_
   refine Zj hF (fun ZsC hF => ?_) (fun ZsC hF => ?_)
   ·refine AWP.seq ?_
    refine ns ?_
    obtain rfl := Zg hF
    refine ns ?_
    refine Exists.intro [] ?_
    refine st ?_
    exact wx (WS.mk (Zd (Zt (lc (lc (lc (lc Zo))))) Zc) Zb)
   ·refine nw ?_
    refine AWP.seq ?_
    refine ns ?_
    obtain rfl := Zg hF
    refine ns ?_
    refine Exists.intro [] ?_
    refine st ?_
    exact wx (WS.mk (Zd (Zt (lc (lc (lc (lc Zo))))) Zc) Zb)
  ·refine AWP.seq ?_
   refine ns ?_
   refine nw ?_
   refine Zj hF (fun ZuO hF => ?_) (fun ZuO hF => ?_)
   ·refine AWP.seq ?_
    obtain ⟨ZxP, hx1450, ZFg, hF⟩ := Zej hF
    obtain ⟨ZxM, hx1460, ZEu, hF⟩ := Zej hF
    obtain ⟨ZAu, ZE7, hF⟩ := bind_some hF
    obtain ⟨ZAp, ZEx, hF⟩ := bind_some hF
    obtain ⟨ZBC, ZEX, hF⟩ := bind_some hF
    refine nn ?_
    refine Or.inl (Or.inr (Exists.intro [0, 6, 7, 8, 9, 10] (Exists.intro [[32, 38, 39, 40, 41, 42], [32, 38, 39, 40, 41, 42], [32, 38, 39, 40, 41, 42], [32, 38, 40, 41, 42], [32, 38, 41, 42], [32, 38, 42]] (Exists.intro [3] (Exists.intro [0, 3, 32, 38, 39, 40, 41, 42] (Exists.intro [32, 38, 39, 40, 41, 42] (Exists.intro [1, 2, 3, 4, 5, 11, 12, 13] (And.intro (by decide +kernel) ?_))))))))
    refine dp ?_
    refine dp ?_
    refine dp ?_
    refine dp ?_
    refine dr (Zdx (Za.cells_eq ZxP) ZFg) ?_
    refine dp ?_
    refine sr (Zdx (f := Za.cells) (Za.cells_eq ZxM) ZEu) ?_
    refine st ?_
    refine e3 ?_
    refine st ?_
    refine cm (Zk.weak (rn []) (Zey s ZxM _ ZE7) rfl (WS.mk (tc (Zd (Zt (lc (lc (lc (lc Zo))))) Zc)) Zb)) ?_
    refine st ?_
    refine e3 ?_
    refine st ?_
    refine cm (Zk.weak (rn []) (Zey s ZxP _ ZEx) rfl (WS.mk (tc (Zd (Zt (lc (lc (lc (lc Zo))))) Zc)) Zb)) ?_
    refine st ?_
    refine e3 ?_
    refine st ?_
    refine cm (Zk.weak (rn []) (ZnV ZAu ZAp _ ZEX) rfl (WS.mk (Zd (Zt (lc (lc (lc (lc Zo))))) (Zd (Zt (lc (lc (lc (lc Zo))))) Zc)) Zb)) ?_
    refine st ?_
    obtain rfl := Zg hF
    refine ns ?_
    refine Exists.intro [] ?_
    refine st ?_
    exact wx (WS.mk (Zd (Zt (lc (lc (lc (lc Zo))))) Zc) Zb)
   ·refine AWP.seq ?_
    refine ns ?_
    refine nw ?_
    refine Zj hF (fun ZFh hF => ?_) (fun ZFh hF => ?_)
    ·refine AWP.seq ?_
     obtain ⟨ZdJ, ZBV, ZyZ, hF⟩ := Zej hF
     refine nn ?_
     refine sr (Zdx (f := Za.cells) (Za.cells_eq ZdJ) ZyZ) ?_
     refine st ?_
     refine AWP.seq ?_
     obtain ⟨Zf0, ZFR, hF⟩ := bind_some hF
     refine ns ?_
     refine e3 ?_
     refine st ?_
     refine cm (Zk.weak (rn []) (Zht ([] : List ByteArray) ([] : List ByteArray) ZdJ _ ZFR) rfl (WS.mk (Zd ZkZ (Zd (Zs WE.nil) (Zd (Zt (lc (lc (lc (lc Zo))))) Zc))) Zb)) ?_
     refine st ?_
     refine AWP.seq ?_
     refine ns ?_
     refine AWP.seq ?_
     refine ns ?_
     refine AWP.seq ?_
     refine AWP.seq ?_
     refine ns ?_
     refine AWP.block ?_
     refine AWP.loop ?_
     refine AWL.weak (rn [(52, 8)]) ?_ (ZdQ s Zf0 ([]) ([]) 0 t ZdJ Zf0 _ hF ([]) rfl rfl)
     exact (WS.mk (tc (tp (tp (tp (Zd (Zay rfl (WE.refl _)) (Zd ZkZ (Zd ZkZ (tc Zc)))))))) (Zf rfl (cc (cc (cc (cc Zh)))) (Zf rfl (cc (cc (cc (cc Zh)))) (Zf rfl (cc (cc (cc (cc Zh)))) Zb))))
    ·refine nw ?_
     refine AWP.seq ?_
     refine ns ?_
     obtain rfl := Zg hF
     refine ns ?_
     refine Exists.intro [] ?_
     refine st ?_
     exact wx (WS.mk (Zd (Zt (lc (lc (lc (lc Zo))))) Zc) Zb)
 ·intro lazycref04_subst_l1' lazycref04_subst_k2' ZdQ Zhc s Zf0 ZeL Zda ZlA t ZdJ ZgS r hF
  unfold Zam.M
  intro Zh0 ZsU Ztq
  refine AWL.step ?_
  refine AWP.seq ?_
  refine AWP.seq ?_
  refine ns ?_
  intro hlen235
  (try rw [List.length_map] at hlen235)
  (try rw [List.length_map])
  refine st ?_
  refine nw ?_
  refine ZS ZsU Ztq (fun ZrE Zut ZyA Zyx ZBL => ?_) (fun ZyA => ?_)
  ·subst ZyA
   refine nw ?_
   refine AWP.seq ?_
   refine AWP.block ?_
   refine AWP.seq ?_
   obtain ⟨Zpd, ZFo, hF⟩ := bind_some hF
   refine nn ?_
   refine sr (Zau (f := c_S) rfl Zyx) ?_
   refine st ?_
   refine e3 ?_
   refine st ?_
   refine cm (Zk.weak (rn []) (Zgv s ZrE _ ZFo) rfl (WS.mk (tc (tc Zc)) Zb)) ?_
   refine st ?_
   refine AWP.seq ?_
   refine AWP.cutN (fun T => ∃ r, WS r T ⟨[(0, .c none (.sl (s.map Ze.cells))), (3, .ptr 3 0), (4, .ptr 4 0), (7, .ptr 7 0), (8, .c (some (8, 9)) (.sl (Zf0.map c_S))), (9, .c (some (9, 45)) (.sl (ZeL.map Ze.cells))), (10, .c (some (10, 9)) (.sl (Zda.map c_S))), (11, .c none (.v (.int .i64 ((ZlA : Nat) : Int)))), (12, .ptr 12 0), (77, .c none (.v (.bool (Zpd.2 && (!(ZrE.toList == t.fName.toList))))))], [(3, [(none, .v (.int .i64 t.fOp)), (none, .v (.string t.fName)), (none, .sl (t.fBound.fArgs.map Zi.cells)), (none, .sl (t.fKids.map Za.cells))]), (4, [(none, .v (.int .i64 0)), (none, .v (.string (ByteArray.mk #[]))), (none, .nils), (none, .nils)]), (7, [(none, .v (.int .i64 ZdJ.fOp)), (none, .v (.string ZdJ.fName)), (none, .sl (ZdJ.fBound.fArgs.map Zi.cells)), (none, .sl (ZdJ.fKids.map Za.cells))]), (12, [(none, .v (.int .i64 Zpd.1.fOp)), (none, .v (.string Zpd.1.fName)), (none, .sl (Zpd.1.fBound.fArgs.map Zi.cells)), (none, .sl (Zpd.1.fKids.map Za.cells))])]⟩) ?_ (fun T hw => ?_)
   ·refine nn ?_
    refine Or.inl (Or.inl (Exists.intro 8 (Exists.intro [[], [], [], [], [], [], [], []] (Exists.intro [([68, 69, 70, 71, 72, 73, 74, 75], [], []), ([69, 70, 71, 72, 73, 74, 75], [], []), ([70, 71, 72, 73, 74, 75], [], []), ([70, 71, 72, 73, 74, 75], [], []), ([72, 73, 74, 75], [], []), ([73, 74, 75], [], []), ([70, 71, 72, 73, 74, 75], [], []), ([70, 71, 72, 73, 75], [], [])] (Exists.intro [68, 69, 70, 71, 72, 73, 74, 75] (And.intro (by decide +kernel) ?_))))))
    refine dp ?_
    refine dp ?_
    refine st ?_
    refine Zl true (fun ZAb => ?_) (fun ZAb => ?_)
    ·(conv => whnf)
     refine dp ?_
     refine dp ?_
     refine dr (Zau rfl Zyx) ?_
     refine dp ?_
     refine dp ?_
     refine dp ?_
     refine st ?_
     exact Exists.intro (rn [(8, 8), (9, 9), (10, 10)]) (WS.mk (tc (tp (tp (tp (Zd (Zay rfl (WE.refl _)) (Zd (Zay rfl (WE.refl _)) (Zd (Zay rfl (WE.refl _)) (tc (tp (Zd (Zs (web ZAb)) Zc)))))))))) (Zf rfl (cc (cc (cc (cc Zh)))) (Zf rfl (cc (cc (cc (cc Zh)))) (Zf rfl (cc (cc (cc (cc Zh)))) (Zf rfl (cc (cc (cc (cc Zh)))) Zb)))))
    ·(conv => whnf)
     refine st ?_
     exact Exists.intro (rn [(8, 8), (9, 9), (10, 10)]) (WS.mk (tc (tp (tp (tp (Zd (Zay rfl (WE.refl _)) (Zd (Zay rfl (WE.refl _)) (Zd (Zay rfl (WE.refl _)) (tc (tp (Zd (Zs (web ZAb)) Zc)))))))))) (Zf rfl (cc (cc (cc (cc Zh)))) (Zf rfl (cc (cc (cc (cc Zh)))) (Zf rfl (cc (cc (cc (cc Zh)))) (Zf rfl (cc (cc (cc (cc Zh)))) Zb)))))
   obtain ⟨r0, hw⟩ := hw
   (conv => whnf)
   refine AWP.weak r0 hw ?_
   refine nw ?_
   refine Zj hF (fun ZER hF => ?_) (fun ZER hF => ?_)
   ·refine AWP.seq ?_
    obtain ⟨ZEp, hF⟩ := Zy hF
    refine nn ?_
    refine Or.inl (Or.inl (Exists.intro 8 (Exists.intro [[], [], [], [], [], [], [], []] (Exists.intro [([78, 79, 80, 81, 82, 83, 84, 85], [], []), ([78, 79, 80, 81, 82, 83, 84, 85], [], []), ([78, 79, 80, 81, 82, 83, 84, 85], [], []), ([78, 81, 82, 83, 84, 85], [], []), ([78, 82, 83, 84, 85], [], []), ([78, 79, 80, 81, 82, 83, 84, 85], [], []), ([78, 84, 85], [], []), ([78, 85], [], [])] (Exists.intro [78, 79, 80, 81, 82, 83, 84, 85] (And.intro (by decide +kernel) ?_))))))
    refine dp ?_
    refine dp ?_
    refine dp ?_
    refine dr (Zau rfl Zyx) ?_
    refine dp ?_
    refine dp ?_
    refine dp ?_
    refine de (Zcm (f := Ze.cells) (Zea (Ze.cells_eq (Ze.mk ZrE Zpd.1)) (lc (lc (lc (lc (lc Zo)))))) (Zaw (f := Ze.cells))) ?_
    refine sa (fun l => ZbW l (fun x => Ze.cells_len x)) ZEp ?_
    refine Exists.intro _ (And.intro (WE.refl _) ?_)
    rw [← List.map_append]
    refine st ?_
    obtain ⟨Zyz, ZFL, hF⟩ := bind_some hF
    refine ns ?_
    refine e3 ?_
    refine st ?_
    refine cm (Zk.weak (rn [(10, 0)]) (Zht Zda ([] : List ByteArray) Zpd.1 _ ZFL) rfl (WS.mk (Zd (Zay rfl (WE.refl _)) (Zd (Zs WE.nil) (Zd (Zt (lc (lc (lc (lc Zo))))) Zc))) Zb)) ?_
    refine st ?_
    refine ns ?_
    refine AWL.weak (rn [(8, 8), (86, 9), (89, 10)]) ?_ (ZdQ s Zf0 (ZeL ++ ([(Ze.mk ZrE Zpd.1)])) Zyz (ZlA + 1) t ZdJ Zut _ hF (Zh0 ++ [ZrE]) (by rw [ZsU]; simp) (by rw [Ztq]; simp))
    exact (WS.mk (tc (tp (tp (tp (Zd (Zay rfl (WE.refl _)) (Zd (Zay rfl (WE.refl _)) (Zd (Zay rfl (WE.refl _)) (Zd (Zs (Zdd (ZZ hlen235 ZBL))) Zc)))))))) (Zf rfl (cc (cc (cc (cc Zh)))) (Zf rfl (cc (cc (cc (cc Zh)))) (Zf rfl (cc (cc (cc (cc Zh)))) Zb))))
   ·refine nw ?_
    refine ns ?_
    refine AWL.weak (rn [(8, 8), (9, 9), (10, 10)]) ?_ (ZdQ s Zf0 ZeL Zda (ZlA + 1) t ZdJ Zut _ hF (Zh0 ++ [ZrE]) (by rw [ZsU]; simp) (by rw [Ztq]; simp))
    exact (WS.mk (tc (tp (tp (tp (Zd (Zay rfl (WE.refl _)) (Zd (Zay rfl (WE.refl _)) (Zd (Zay rfl (WE.refl _)) (Zd (Zs (Zdd (ZZ hlen235 ZBL))) Zc)))))))) (Zf rfl (cc (cc (cc (cc Zh)))) (Zf rfl (cc (cc (cc (cc Zh)))) (Zf rfl (cc (cc (cc (cc Zh)))) Zb))))
  ·subst ZyA
   refine nw ?_
   refine AWP.seq ?_
   refine ns ?_
   refine AWP.seq ?_
   refine AWP.seq ?_
   obtain ⟨ZFs, ZEB, hF⟩ := bind_some hF
   refine ns ?_
   refine Exists.intro [10] (Exists.intro [] (Exists.intro [] ?_))
   refine st ?_
   refine cm (Zk.weak (rn []) (Zep Zda t.fName _ ZEB) rfl (WS.mk (tc (tc Zc)) Zb)) ?_
   refine st ?_
   refine nw ?_
   refine Zj hF (fun ZE6 hF => ?_) (fun ZE6 hF => ?_)
   ·refine AWP.seq ?_
    refine ns ?_
    refine AWP.seq ?_
    obtain ⟨ZGb, hF⟩ := Zy hF
    refine nn ?_
    refine sa (fun l => ZbW l (fun x => Zfg x)) ZGb ?_
    refine Exists.intro _ (And.intro (WE.refl _) ?_)
    (try rw [List.nil_append])
    refine st ?_
    refine AWP.seq ?_
    obtain ⟨ZFQ, hF⟩ := Zy hF
    refine nn ?_
    refine sa (fun l => ZbW l (fun x => Zfg x)) ZFQ ?_
    refine Exists.intro _ (And.intro (WE.refl _) ?_)
    rw [← List.map_append]
    refine st ?_
    refine AWP.seq ?_
    obtain ⟨Zzh, ZFc, hF⟩ := bind_some hF
    refine ns ?_
    refine Exists.intro [100] (Exists.intro [] (Exists.intro [] ?_))
    refine st ?_
    refine cm (Zk.weak (rn []) (Zlq t.fName (Zf0 ++ Zda) _ ZFc) rfl (WS.mk (tc (tc Zc)) Zb)) ?_
    refine st ?_
    obtain ⟨Zz5, ZFw, hF⟩ := bind_some hF
    obtain ⟨ZFY, hF⟩ := Zy hF
    refine nn ?_
    refine Or.inl (Or.inl (Exists.intro 7 (Exists.intro [[], [], [], [], [], [], []] (Exists.intro [([105, 106, 107, 108, 109, 110, 111], [], []), ([105, 106, 107, 108, 109, 110, 111], [], []), ([105, 107, 108, 109, 110, 111], [], []), ([105, 106, 107, 108, 109, 110, 111], [], []), ([105, 106, 107, 109, 110, 111], [], []), ([105, 110, 111], [], []), ([105, 111], [], [])] (Exists.intro [105, 106, 107, 108, 109, 110, 111] (And.intro (by decide +kernel) ?_))))))
    refine dp ?_
    refine dp ?_
    refine dp ?_
    refine dp ?_
    (refine st ?_; apply Exists.intro; apply Exists.intro; apply And.intro; (focus ((conv => whnf); refine Exists.intro [] ?_; (conv => whnf); refine And.intro rfl ?_; (conv => whnf); refine Zk.mono (Zk.weak (rn []) (Zom Zzh _ ZFw) rfl (WS.mk (tc Zc) Zb)) ?_; rintro d b ⟨rfl, rfl⟩; exact And.intro rfl (And.intro rfl rfl))); apply And.intro; (focus exact rfl); (conv => whnf))
    refine dp ?_
    refine de (Zcm (f := Ze.cells) (Zea (Ze.cells_eq (Ze.mk t.fName Zz5)) (lc (lc (lc (lc (lc Zo)))))) (Zaw (f := Ze.cells))) ?_
    refine sa (fun l => ZbW l (fun x => Ze.cells_len x)) ZFY ?_
    refine Exists.intro _ (And.intro (WE.refl _) ?_)
    rw [← List.map_append]
    refine st ?_
    refine AWP.weak (rn [(112, 9)]) ?_ (Zhc (ZeL ++ ([(Ze.mk t.fName Zz5)])) Zzh t ZdJ _ hF)
    exact (WS.mk (tp (tp (tp (Zd (Zay rfl (WE.refl _)) (tc Zc))))) (Zf rfl (cc (cc (cc (cc Zh)))) (Zf rfl (cc (cc (cc (cc Zh)))) (Zf rfl (cc (cc (cc (cc Zh)))) Zb))))
   ·refine nw ?_
    refine AWP.weak (rn [(9, 9)]) ?_ (Zhc ZeL t.fName t ZdJ _ hF)
    exact (WS.mk (tp (tp (tp (Zd (Zay rfl (WE.refl _)) (tc Zc))))) (Zf rfl (cc (cc (cc (cc Zh)))) (Zf rfl (cc (cc (cc (cc Zh)))) (Zf rfl (cc (cc (cc (cc Zh)))) Zb))))
 ·intro lazycref04_subst' Zey ZeL Zk2 t ZdJ r hF
  unfold ZbH.M
  refine AWP.seq ?_
  obtain ⟨ZCn, ZEZ, hF⟩ := bind_some hF
  refine nn ?_
  refine Or.inl (Or.inr (Exists.intro [0, 1, 2, 3] (Exists.intro [[113, 114, 115, 116], [113, 114, 115, 116], [113, 115, 116], [113, 114, 115, 116]] (Exists.intro [3] (Exists.intro [3, 9, 14, 113, 114, 115, 116] (Exists.intro [113, 114, 115, 116] (Exists.intro [4, 5, 6, 7, 8] (And.intro (by decide +kernel) ?_))))))))
  refine dp ?_
  refine dp ?_
  refine dp ?_
  refine dp ?_
  refine st ?_
  refine Exists.intro [9] (Exists.intro [] (Exists.intro [] ?_))
  refine st ?_
  refine cm (Zk.weak (rn []) (Zey ZeL ZdJ _ ZEZ) rfl (WS.mk (tc (Zd (Zt (lc (lc (lc (lc Zo))))) Zc)) Zb)) ?_
  refine st ?_
  refine Exists.intro _ (And.intro (Zcm (f := Za.cells) (Zea (Za.cells_eq ZCn) (lc (lc (lc (lc Zo))))) (Zaw (f := Za.cells))) ?_)
  refine st ?_
  obtain rfl := Zg hF
  refine ns ?_
  refine Exists.intro [] ?_
  refine st ?_
  exact wx (WS.mk (Zd (Zt (lc (lc (lc (lc Zo))))) Zc) Zb)
theorem ZmK : ∀ (s : (List Ze)) (t : Za), ∀ r, ZB s t = some r → ZB.M s t r := ZlU.1

def ZW (s : (List Ze)) (i_5 : Nat) (t : Za) (Zce : (List Ze)) : Option (Za) :=
 (match Zce with
 | x58 :: ZC4 =>
 Zbi x58.fName >>= fun r61 =>
 (if (!r61) = true then some true else Zag x58.fType >>= fun r62 =>
 some (r62 != 0)) >>= fun c63 =>
 if c63 = true then
 some (Za.mk 0 (ByteArray.mk #[]) (Zi.mk ([] : List Zi)) ([] : List Za))
 else
 ZW s (i_5 + 1) t ZC4
 | [] =>
 ZM s ([] : List ByteArray) t >>= fun r66 =>
 if ((decide (r66.1 > 20000)) || (decide (r66.2 > 100))) = true then
 some (Za.mk 0 (ByteArray.mk #[]) (Zi.mk ([] : List Zi)) ([] : List Za))
 else
 ZB s t >>= fun r70 =>
 some r70)
 partial_fixpoint
def ZW.M (s : (List Ze)) (i_5 : Nat) (t : Za) (Zce : (List Ze)) (r : Za) : Prop :=
 ∀ Zen : List Ze, s = Zen ++ Zce → i_5 = Zen.length → AWL Tryz.prog 51 (Code.sub (Zq Tryz.f17) [1, 1, 0, 1, 0, 0]) (Code.cont Tryz.prog 51 (Zq Tryz.f17) [1, 1, 0, 1, 0] (ZbS tab Tryz.f17.results (ZbX (.agg [.v (.int .i64 r.fOp), .v (.string r.fName), .sl (r.fBound.fArgs.map Zi.cells), .sl (r.fKids.map Za.cells)]) []))) ⟨[(0, .c none (.sl (s.map Ze.cells))), (3, .ptr 3 0), (4, .ptr 4 0), (5, .c none (.v (.int .i64 ((i_5 : Nat) : Int))))], [(3, [(none, .v (.int .i64 t.fOp)), (none, .v (.string t.fName)), (none, .sl (t.fBound.fArgs.map Zi.cells)), (none, .sl (t.fKids.map Za.cells))]), (4, [(none, .v (.int .i64 0)), (none, .v (.string (ByteArray.mk #[]))), (none, .nils), (none, .nils)])]⟩
theorem Zkt (s : (List Ze)) (i_5 : Nat) (t : Za) (Zce : (List Ze)) : ∀ r, ZW s i_5 t Zce = some r → ZW.M s i_5 t Zce r := by
 refine ZW.partial_correctness s t (fun i_5 Zce r => ZW.M s i_5 t Zce r) ?_ i_5 Zce
 intro lazycref04_Subst_l1' ZgG i_5 Zce r hF
 have ZkA := fun (_s : (List Ze)) (i_5 : Nat) (_t : Za) (Zce : (List Ze)) => ZgG i_5 Zce
 clear ZgG
 unfold ZW.M
 intro Zen ZlP Zls
 refine AWL.step ?_
 refine AWP.seq ?_
 refine AWP.seq ?_
 refine ns ?_
 intro hlen57
 (try rw [List.length_map] at hlen57)
 (try rw [List.length_map])
 refine st ?_
 refine nw ?_
 refine ZS ZlP Zls (fun x58 ZC4 ZD3 ZFj ZHn => ?_) (fun ZD3 => ?_)
 ·subst ZD3
  refine nw ?_
  refine AWP.seq ?_
  refine AWP.block ?_
  refine AWP.seq ?_
  obtain ⟨r61, ZAt, hF⟩ := bind_some hF
  obtain ⟨c63, Zob, hF⟩ := bind_some hF
  refine AWP.cutN (fun T => ∃ r, WS r T ⟨[(0, .c none (.sl (s.map Ze.cells))), (3, .ptr 3 0), (4, .ptr 4 0), (5, .c none (.v (.int .i64 ((i_5 : Nat) : Int)))), (33, .c none (.v (.bool c63)))], [(3, [(none, .v (.int .i64 t.fOp)), (none, .v (.string t.fName)), (none, .sl (t.fBound.fArgs.map Zi.cells)), (none, .sl (t.fKids.map Za.cells))]), (4, [(none, .v (.int .i64 0)), (none, .v (.string (ByteArray.mk #[]))), (none, .nils), (none, .nils)])]⟩) ?_ (fun T hw => ?_)
  ·refine nn ?_
   refine sr (Zau (f := Ze.cells) (Ze.cells_eq x58) ZFj) ?_
   refine st ?_
   refine e3 ?_
   refine st ?_
   refine cm (Zk.weak (rn []) (Zfa x58.fName _ ZAt) rfl (WS.mk (tc Zc) Zb)) ?_
   refine st ?_
   refine Zl false (fun Zqp => ?_) (fun Zqp => ?_)
   ·have Zob := ift Zqp Zob
    (conv => whnf)
    obtain rfl := Zg Zob
    refine st ?_
    exact wx (WS.mk (tc (tp (tp (tc (Zd (Zs (web Zqp)) Zc))))) (Zf rfl (cc (cc (cc (cc Zh)))) (Zf rfl (cc (cc (cc (cc Zh)))) Zb)))
   ·have Zob := ife Zqp Zob
    obtain ⟨r62, ZCm, Zob⟩ := bind_some Zob
    (conv => whnf)
    refine sr (Zau (f := Ze.cells) (Ze.cells_eq x58) ZFj) ?_
    refine st ?_
    refine e3 ?_
    refine st ?_
    refine cm (Zk.weak (rn []) (ZdH x58.fType _ ZCm) rfl (WS.mk (Zd (Zt (lc (lc (lc (lc Zo))))) Zc) Zb)) ?_
    refine st ?_
    obtain rfl := Zg Zob
    refine st ?_
    exact wx (WS.mk (tc (tp (tp (tc (Zd (Zs (web Zqp)) Zc))))) (Zf rfl (cc (cc (cc (cc Zh)))) (Zf rfl (cc (cc (cc (cc Zh)))) Zb)))
  obtain ⟨r0, hw⟩ := hw
  (conv => whnf)
  refine AWP.weak r0 hw ?_
  refine nw ?_
  refine Zj hF (fun ZnG hF => ?_) (fun ZnG hF => ?_)
  ·refine AWP.seq ?_
   refine ns ?_
   obtain rfl := Zg hF
   refine ns ?_
   refine Exists.intro [] ?_
   refine st ?_
   exact wx (WS.mk (Zd (Zt (lc (lc (ZaD WE.nil (ZaD WE.nil Zo))))) Zc) Zb)
  ·refine nw ?_
   refine ns ?_
   refine AWL.weak (rn []) ?_ (ZkA s (i_5 + 1) t ZC4 _ hF (Zen ++ [x58]) (by rw [ZlP]; simp) (by rw [Zls]; simp))
   exact (WS.mk (tc (tp (tp (Zd (Zs (Zdd (ZZ hlen57 ZHn))) Zc)))) (Zf rfl (cc (cc (cc (cc Zh)))) (Zf rfl (cc (cc (cc (cc Zh)))) Zb)))
 ·subst ZD3
  refine nw ?_
  refine AWP.seq ?_
  obtain ⟨r66, ZH7, hF⟩ := bind_some hF
  refine ns ?_
  refine e3 ?_
  refine st ?_
  refine cm (Zk.weak (rn []) (Zld s ([] : List ByteArray) t _ ZH7) rfl (WS.mk (tc (Zd (Zs WE.nil) (Zd (Zt (lc (lc (lc (lc Zo))))) Zc))) Zb)) ?_
  refine st ?_
  refine AWP.seq ?_
  refine AWP.seq ?_
  refine AWP.cutN (fun T => ∃ r, WS r T ⟨[(0, .c none (.sl (s.map Ze.cells))), (3, .ptr 3 0), (4, .ptr 4 0), (46, .c none (.v (.bool ((decide (r66.1 > 20000)) || (decide (r66.2 > 100))))))], [(3, [(none, .v (.int .i64 t.fOp)), (none, .v (.string t.fName)), (none, .sl (t.fBound.fArgs.map Zi.cells)), (none, .sl (t.fKids.map Za.cells))]), (4, [(none, .v (.int .i64 0)), (none, .v (.string (ByteArray.mk #[]))), (none, .nils), (none, .nils)])]⟩) ?_ (fun T hw => ?_)
  ·refine ns ?_
   refine Zl false (fun ZB8 => ?_) (fun ZB8 => ?_)
   ·(conv => whnf)
    refine st ?_
    exact wx (WS.mk (tc (tp (tp (Zd (Zs (web ZB8)) Zc)))) (Zf rfl (cc (cc (cc (cc Zh)))) (Zf rfl (cc (cc (cc (cc Zh)))) Zb)))
   ·(conv => whnf)
    refine st ?_
    exact wx (WS.mk (tc (tp (tp (Zd (Zs (web ZB8)) Zc)))) (Zf rfl (cc (cc (cc (cc Zh)))) (Zf rfl (cc (cc (cc (cc Zh)))) Zb)))
  obtain ⟨r0, hw⟩ := hw
  (conv => whnf)
  refine AWP.weak r0 hw ?_
  refine nw ?_
  refine Zj hF (fun ZCB hF => ?_) (fun ZCB hF => ?_)
  ·refine AWP.seq ?_
   refine ns ?_
   obtain rfl := Zg hF
   refine ns ?_
   refine Exists.intro [] ?_
   refine st ?_
   exact wx (WS.mk (Zd (Zt (lc (lc (ZaD WE.nil (ZaD WE.nil Zo))))) Zc) Zb)
  ·refine nw ?_
   refine AWP.seq ?_
   obtain ⟨r70, ZDV, hF⟩ := bind_some hF
   refine ns ?_
   refine e3 ?_
   refine st ?_
   refine cm (Zk.weak (rn []) (ZmK s t _ ZDV) rfl (WS.mk (tc (Zd (Zt (lc (lc (lc (lc Zo))))) Zc)) Zb)) ?_
   refine st ?_
   obtain rfl := Zg hF
   refine ns ?_
   refine Exists.intro [] ?_
   refine st ?_
   exact wx (WS.mk (Zd (Zt (lc (lc (lc (lc Zo))))) Zc) Zb)

def Z7 (s : (List Ze)) (t : Za) : Option (Za) :=
 Zag t >>= fun r3 =>
 if (r3 != 0) = true then
 some (Za.mk 0 (ByteArray.mk #[]) (Zi.mk ([] : List Zi)) ([] : List Za))
 else
 ZW s 0 t s
def Z7.M (s : (List Ze)) (t : Za) (r : Za) : Prop :=
 Zk Tryz.prog 17 [.c none (.sl (s.map Ze.cells)), .agg [.v (.int .i64 t.fOp), .v (.string t.fName), .sl (t.fBound.fArgs.map Zi.cells), .sl (t.fKids.map Za.cells)]] [] (fun d b => d = .agg [.v (.int .i64 r.fOp), .v (.string r.fName), .sl (r.fBound.fArgs.map Zi.cells), .sl (r.fKids.map Za.cells)] ∧ b = [])
theorem Zex (s : (List Ze)) (t : Za) (r : Za) (hF : Z7 s t = some r) : Z7.M s t r := by
 unfold Z7 at hF
 unfold Z7.M
 refine en Tryz.func17 ?_
 refine AWP.seq ?_
 refine ns ?_
 refine AWP.seq ?_
 refine AWP.seq ?_
 obtain ⟨r3, hr3, hF⟩ := bind_some hF
 refine ns ?_
 refine e3 ?_
 refine st ?_
 refine cm (Zk.weak (rn []) (ZdH t _ hr3) rfl (WS.mk (Zd (Zt (lc (lc (lc (lc Zo))))) Zc) Zb)) ?_
 refine st ?_
 refine nw ?_
 refine Zj hF (fun hc4 hF => ?_) (fun hc4 hF => ?_)
 ·refine AWP.seq ?_
  refine ns ?_
  obtain rfl := Zg hF
  refine ns ?_
  refine Exists.intro [] ?_
  refine st ?_
  exact wx (WS.mk (Zd (Zt (lc (lc (ZaD WE.nil (ZaD WE.nil Zo))))) Zc) Zb)
 ·refine nw ?_
  refine AWP.seq ?_
  refine AWP.seq ?_
  refine ns ?_
  refine AWP.block ?_
  refine AWP.loop ?_
  refine AWL.weak (rn []) ?_ (Zkt s 0 t s _ hF ([]) rfl rfl)
  exact (WS.mk (tc (tp (tp (tc Zc)))) (Zf rfl (cc (cc (cc (cc Zh)))) (Zf rfl (cc (cc (cc (cc Zh)))) Zb)))

def Z5 (v : ByteArray) (r6 : (Za)) (s : Zr) (Zke : Nat) (ZE : (List Ze)) : Option (Int × Zr) :=
 if (decide (((Zke : Nat) : Int) < ((s.flist.length : Nat) : Int))) = true then
 (ZE[Zke]?) >>= fun x53 =>
 ZdS ([(Ze.mk v r6)]) x53.fType >>= fun r54 =>
 if (r54.fOp == 0) = true then
 some (3, Zr.mk ZE s.fat)
 else
 (ZE[Zke]?) >>= fun x58 =>
 Z5 v r6 s (Zke + 1) (ZE.set Zke (Ze.mk x58.fName r54))
 else
 ZK ((ZE.length + ([(Ze.mk v r6)]).length) * 88 ≤ 140737488355328) >>= fun _ =>
 some (0, Zr.mk (ZE ++ ([(Ze.mk v r6)])) (Zhl s.fat v ((ZE.length : Nat) : Int)))
 partial_fixpoint
def Z5.M (v : ByteArray) (r6 : (Za)) (s : Zr) (Zke : Nat) (ZE : (List Ze)) (r : Int × Zr) : Prop :=
 s.flist.length ≤ maxLen → AWL Tryz.prog 77 (Code.sub (Zq Tryz.f53) [1, 1, 1, 1, 1, 0, 1, 0, 0]) (Code.cont Tryz.prog 77 (Zq Tryz.f53) [1, 1, 1, 1, 1, 0, 1, 0] (ZbS tab Tryz.f53.results (ZbX (.c none (.v (.int .i64 r.1))) [(1000, [(none, .rs 7001 r.2.flist.length), (none, .rf 1002)]), (1002, [(none, .ob 109 (r.2.fat.map (ZdK c_S Zb6)))]), (7001, [(none, .ob 90 (r.2.flist.map Ze.cells))])]))) ⟨[(0, .ptr 1000 0), (1, .c none (.v (.string v))), (8, .c (some (8, 45)) (.sl (([(Ze.mk v r6)]).map Ze.cells))), (32, .c none (.rs 7001 ZE.length)), (33, .c none (.v (.int .i64 ((s.flist.length : Nat) : Int)))), (34, .c none (.v (.int .i64 ((Zke : Nat) : Int))))], [(1000, [(none, .rs 7001 ZE.length), (none, .rf 1002)]), (1002, [(none, .ob 109 (s.fat.map (ZdK c_S Zb6)))]), (7001, [(none, .ob 90 (ZE.map Ze.cells))])]⟩
theorem Zka (v : ByteArray) (r6 : (Za)) (s : Zr) (Zke : Nat) (ZE : (List Ze)) : ∀ r, Z5 v r6 s Zke ZE = some r → Z5.M v r6 s Zke ZE r := by
 refine Z5.partial_correctness v r6 s (fun Zke ZE r => Z5.M v r6 s Zke ZE r) ?_ Zke ZE
 intro unify_solver_bind_l1' Zf9 Zke ZE r hF
 have ZjU := fun (_v : ByteArray) (_r6 : (Za)) (_s : Zr) (Zke : Nat) (ZE : (List Ze)) => Zf9 Zke ZE
 clear Zf9
 unfold Z5.M
 intro hlen34
 refine AWL.step ?_
 refine AWP.seq ?_
 refine ns ?_
 refine AWP.seq ?_
 refine nw ?_
 refine Zj hF (fun Zi7 hF => ?_) (fun Zi7 hF => ?_)
 ·have ZGG := Zya Zi7
  refine nw ?_
  refine AWP.seq ?_
  refine AWP.block ?_
  refine AWP.seq ?_
  obtain ⟨x53, ZFx, hF⟩ := bind_some hF
  refine ns ?_
  refine And.intro (Ztf ZFx) ?_
  refine st ?_
  refine sr (Zau (f := Ze.cells) (Ze.cells_eq x53) ZFx) ?_
  refine st ?_
  refine AWP.seq ?_
  obtain ⟨r54, ZHd, hF⟩ := bind_some hF
  refine ns ?_
  refine Exists.intro [8] (Exists.intro [] (Exists.intro [] ?_))
  refine st ?_
  refine cm (Zk.weak (rn []) (ZpL ([(Ze.mk v r6)]) x53.fType _ ZHd) rfl (WS.mk (tc (Zd (Zt (lc (lc (lc (lc Zo))))) Zc)) Zb)) ?_
  refine st ?_
  refine AWP.seq ?_
  refine AWP.seq ?_
  refine ns ?_
  refine nw ?_
  refine Zj hF (fun Zhm hF => ?_) (fun Zhm hF => ?_)
  ·refine AWP.seq ?_
   refine ns ?_
   obtain rfl := Zg hF
   refine ns ?_
   refine Exists.intro [(1000, 1000), (7001, 7001), (1002, 1002)] ?_
   refine st ?_
   exact wx (WS.mk (tc Zc) (Zf rfl (Zew (ZaH (by first | exact rfl | simp only [List.length_set])) (cc Zh)) (Zf rfl (cc Zh) (Zf rfl (cc Zh) Zb))))
  ·refine nw ?_
   obtain ⟨x58, ZEg, hF⟩ := bind_some hF
   refine nn ?_
   refine Or.inl (Or.inl (Exists.intro 6 (Exists.intro [[], [], [], [], [], []] (Exists.intro [([46, 47, 48, 49, 50, 51], [], []), ([47, 48, 49, 50, 51], [], []), ([48, 49, 50, 51], [], []), ([49, 50, 51], [], []), ([46, 47, 48, 49, 50, 51], [], []), ([46, 47, 48, 49, 50, 51], [], [])] (Exists.intro [46, 47, 48, 49, 50, 51] (And.intro (by decide +kernel) ?_))))))
   refine dp ?_
   refine dp ?_
   refine dp ?_
   refine dp ?_
   refine dp ?_
   refine dp ?_
   refine st ?_
   refine And.intro (Ztf ZEg) ?_
   refine st ?_
   refine sr (Zau (f := Ze.cells) (Ze.cells_eq x58) ZEg) ?_
   refine Exists.intro ((ZE.set Zke (Ze.mk x58.fName r54)).map Ze.cells) (And.intro (ZDd (Zea (Ze.cells_eq (Ze.mk x58.fName r54)) (lc (lc (lc (lc (lc Zo))))))) ?_)
   refine st ?_
   refine ns ?_
   refine AWL.weak (rn [(8, 8)]) ?_ (ZjU v r6 s (Zke + 1) (ZE.set Zke (Ze.mk x58.fName r54)) _ hF hlen34)
   exact (WS.mk (tp (tc (Zd (Zay rfl (WE.refl _)) (Zd (Zs (ZaH (by first | exact rfl | simp only [List.length_set]))) (tc (Zd (Zs (Zdd (ZZ hlen34 ZGG))) Zc)))))) (Zf rfl (Zew (ZaH (by first | exact rfl | simp only [List.length_set])) (cc Zh)) (Zf rfl (cc Zh) (Zf rfl (cc Zh) Zb))))
 ·refine nw ?_
  refine AWP.seq ?_
  refine nn ?_
  refine Or.inl (Or.inl (Exists.intro 10 (Exists.intro [[], [], [], [], [], [], [], [], [], []] (Exists.intro [([55, 56, 57, 58, 59, 60, 61, 62, 63, 64], [], []), ([56, 57, 58, 59, 60, 61, 62, 63, 64], [], []), ([57, 58, 59, 60, 61, 62, 63, 64], [], []), ([58, 59, 60, 61, 62, 63, 64], [], []), ([55, 56, 57, 58, 59, 60, 61, 62, 63, 64], [], []), ([55, 56, 57, 58, 59, 60, 61, 62, 63, 64], [], []), ([55, 56, 57, 58, 59, 61, 62, 63, 64], [], []), ([55, 56, 57, 58, 59, 62, 63, 64], [], []), ([55, 56, 57, 58, 59, 63, 64], [], []), ([55, 56, 57, 58, 59, 64], [], [])] (Exists.intro [55, 56, 57, 58, 59, 60, 61, 62, 63, 64] (And.intro (by decide +kernel) ?_))))))
  refine dp ?_
  refine dp ?_
  refine dp ?_
  refine dp ?_
  refine dp ?_
  refine dp ?_
  refine dp ?_
  refine dp ?_
  refine dp ?_
  refine dl ?_
  refine st ?_
  refine ZnT (m := s.fat) (k := v) (v := ((ZE.length : Nat) : Int)) ZgW (ev := Zb6) (lc Zo) ?_
  refine st ?_
  refine AWP.seq ?_
  obtain ⟨ZCi, hF⟩ := Zy hF
  refine nn ?_
  refine Or.inl (Or.inr (Exists.intro [0, 5, 6, 7, 8] (Exists.intro [[65, 70, 71, 72, 73], [65, 70, 71, 72, 73], [65, 71, 72, 73], [65, 72, 73], [65, 73]] (Exists.intro [] (Exists.intro [0, 8, 65, 70, 71, 72, 73] (Exists.intro [65, 70, 71, 72, 73] (Exists.intro [1, 2, 3, 4, 9, 10, 11, 12] (And.intro (by decide +kernel) ?_))))))))
  refine dp ?_
  refine dp ?_
  refine dp ?_
  refine dp ?_
  refine de (Zcm (f := Ze.cells) (Zea (Ze.cells_eq (Ze.mk v r6)) (lc (lc (lc (lc (lc Zo)))))) (Zaw (f := Ze.cells))) ?_
  refine sa (fun l => ZbW l (fun x => Ze.cells_len x)) ZCi ?_
  refine Exists.intro (([(Ze.mk v r6)]).map Ze.cells) (Exists.intro ((ZE ++ ([(Ze.mk v r6)])).map Ze.cells) (Exists.intro (ZE ++ ([(Ze.mk v r6)])).length (And.intro (WE.refl _) (And.intro (Zv6 (by first | exact rfl | simp only [List.length_set])) (And.intro (ZvD (by first | exact rfl | simp only [List.length_set]) (by first | exact List.length_map _ | exact rfl)) ?_)))))
  refine st ?_
  refine AWP.seq ?_
  refine ns ?_
  obtain rfl := Zg hF
  refine ns ?_
  refine Exists.intro [(1000, 1000), (7001, 7001), (1002, 1002)] ?_
  refine st ?_
  exact wx (WS.mk (tc Zc) (Zf rfl (Zew (ZaH (by first | exact rfl | simp only [List.length_set])) (cc Zh)) (Zf rfl (cc Zh) (Zf rfl (cc Zh) Zb))))

def Zaq (s : Zr) (v : ByteArray) (t : Za) : Option (Int × Zr) :=
 Zcd s v t >>= fun r3 =>
 if r3 = true then
 some (23, s)
 else
 Zei s.flist t >>= fun r6 =>
 if (r6.fOp == 0) = true then
 some (3, s)
 else
 Z5 v r6 s 0 s.flist
def Zaq.M (s : Zr) (v : ByteArray) (t : Za) (r : Int × Zr) : Prop :=
 Zk Tryz.prog 53 [.ptr 1000 0, .c none (.v (.string v)), .agg [.v (.int .i64 t.fOp), .v (.string t.fName), .sl (t.fBound.fArgs.map Zi.cells), .sl (t.fKids.map Za.cells)]] [(1000, [(none, .rs 7001 s.flist.length), (none, .rf 1002)]), (1002, [(none, .ob 109 (s.fat.map (ZdK c_S Zb6)))]), (7001, [(none, .ob 90 (s.flist.map Ze.cells))])] (fun d b => d = .c none (.v (.int .i64 r.1)) ∧ b = [(1000, [(none, .rs 7001 r.2.flist.length), (none, .rf 1002)]), (1002, [(none, .ob 109 (r.2.fat.map (ZdK c_S Zb6)))]), (7001, [(none, .ob 90 (r.2.flist.map Ze.cells))])])
theorem Zh3 (s : Zr) (v : ByteArray) (t : Za) (r : Int × Zr) (hF : Zaq s v t = some r) : Zaq.M s v t r := by
 unfold Zaq at hF
 unfold Zaq.M
 refine en Tryz.func53 ?_
 refine AWP.seq ?_
 refine ns ?_
 refine AWP.seq ?_
 refine AWP.seq ?_
 obtain ⟨r3, hr3, hF⟩ := bind_some hF
 refine ns ?_
 refine Exists.intro [] (Exists.intro [(1000, 1000), (7001, 1001), (1002, 1002)] (Exists.intro [] ?_))
 refine st ?_
 refine cm (Zk.weak (rn []) (ZkH s v t _ hr3) rfl (WS.mk (tp (tc (Zd (Zt (lc (lc (lc (lc Zo))))) Zc))) (Zf rfl (Zew (ZaH (by first | exact rfl | simp only [List.length_set])) (cc Zh)) (Zf rfl (cc Zh) (Zf rfl (cc Zh) Zb))))) ?_
 refine st ?_
 refine nw ?_
 refine Zj hF (fun hc4 hF => ?_) (fun hc4 hF => ?_)
 ·refine AWP.seq ?_
  refine ns ?_
  obtain rfl := Zg hF
  refine ns ?_
  refine Exists.intro [(1000, 1000), (7001, 7001), (1002, 1002)] ?_
  refine st ?_
  exact wx (WS.mk (tc Zc) (Zf rfl (Zew (ZaH (by first | exact rfl | simp only [List.length_set])) (cc Zh)) (Zf rfl (cc Zh) (Zf rfl (cc Zh) Zb))))
 ·refine nw ?_
  refine AWP.seq ?_
  obtain ⟨r6, hr6, hF⟩ := bind_some hF
  refine nn ?_
  refine Or.inl (Or.inl (Exists.intro 7 (Exists.intro [[], [], [], [], [], [7001], [7]] (Exists.intro [([16, 17, 18, 19, 20, 21, 7], [7], []), ([17, 18, 19, 20, 21, 7], [7], []), ([18, 19, 20, 21, 7], [7], []), ([19, 20, 21, 7], [7], []), ([16, 17, 18, 19, 20, 21, 7], [7], []), ([21, 7], [7], [7001]), ([16, 17, 18, 19, 20, 21, 7], [7001], [7])] (Exists.intro [16, 17, 18, 19, 20, 21, 7] (And.intro (by decide +kernel) ?_))))))
  refine dp ?_
  refine dp ?_
  refine dp ?_
  refine dp ?_
  refine dp ?_
  (refine st ?_; apply Exists.intro; apply Exists.intro; apply And.intro; (focus ((conv => whnf); refine Exists.intro [(7001, 1000)] ?_; (conv => whnf); refine And.intro rfl ?_; (conv => whnf); refine Zk.mono (Zk.weak (rn []) (ZqK s.flist t _ hr6) rfl (WS.mk (Zd (Zs (ZaH (by first | exact rfl | simp only [List.length_set]))) (Zd (Zt (lc (lc (lc (lc Zo))))) Zc)) (Zf rfl (cc Zh) Zb))) ?_; rintro d b ⟨rfl, rfl⟩; exact And.intro rfl (And.intro rfl rfl))); apply And.intro; (focus exact rfl); (conv => whnf))
  refine dp ?_
  refine st ?_
  refine AWP.seq ?_
  refine AWP.seq ?_
  refine ns ?_
  refine nw ?_
  refine Zj hF (fun hc8 hF => ?_) (fun hc8 hF => ?_)
  ·refine AWP.seq ?_
   refine ns ?_
   obtain rfl := Zg hF
   refine ns ?_
   refine Exists.intro [(1000, 1000), (7001, 7001), (1002, 1002)] ?_
   refine st ?_
   exact wx (WS.mk (tc Zc) (Zf rfl (Zew (ZaH (by first | exact rfl | simp only [List.length_set])) (cc Zh)) (Zf rfl (cc Zh) (Zf rfl (cc Zh) Zb))))
  ·refine nw ?_
   refine AWP.seq ?_
   refine ns ?_
   refine Exists.intro _ (And.intro (Zcm (f := Ze.cells) (Zea (Ze.cells_eq (Ze.mk v r6)) (lc (lc (lc (lc (lc Zo)))))) (Zaw (f := Ze.cells))) ?_)
   refine st ?_
   refine AWP.seq ?_
   refine AWP.seq ?_
   refine ns ?_
   intro hlen34
   (try rw [List.length_map] at hlen34)
   (try rw [List.length_map])
   refine st ?_
   refine AWP.block ?_
   refine AWP.loop ?_
   refine AWL.weak (rn [(28, 8)]) ?_ (Zka v r6 s 0 s.flist _ hF hlen34)
   exact (WS.mk (tp (tc (Zd (Zay rfl (WE.refl _)) (Zd (Zs (ZaH (by first | exact rfl | simp only [List.length_set]))) (tc (tc Zc)))))) (Zf rfl (Zew (ZaH (by first | exact rfl | simp only [List.length_set])) (cc Zh)) (Zf rfl (cc Zh) (Zf rfl (cc Zh) Zb))))

def Zdm (s : (List Ze)) (name_ : ByteArray) (r5 : (Za)) (ZoL : (List Ze)) (ZlA : Nat) (ZgS : (List Ze)) : Option ((List Ze) × Int) :=
 (match ZgS with
 | x71 :: ZH9 =>
 Z7 ([(Ze.mk name_ r5)]) x71.fType >>= fun r74 =>
 if (r74.fOp == 0) = true then
 some (([] : List Ze), 3)
 else
 ZK ((ZoL.length + ([(Ze.mk x71.fName r74)]).length) * 88 ≤ 140737488355328) >>= fun _ =>
 Zdm s name_ r5 (ZoL ++ ([(Ze.mk x71.fName r74)])) (ZlA + 1) ZH9
 | [] =>
 ZK ((ZoL.length + ([(Ze.mk name_ r5)]).length) * 88 ≤ 140737488355328) >>= fun _ =>
 some (ZoL ++ ([(Ze.mk name_ r5)]), 0))
 partial_fixpoint
def Zdm.M (s : (List Ze)) (name_ : ByteArray) (r5 : (Za)) (ZoL : (List Ze)) (ZlA : Nat) (ZgS : (List Ze)) (r : (List Ze) × Int) : Prop :=
 ∀ Zh0 : List Ze, s = Zh0 ++ ZgS → ZlA = Zh0.length → AWL Tryz.prog 60 (Code.sub (Zq Tryz.f35) [1, 1, 1, 1, 1, 1, 0, 1, 0, 0]) (Code.cont Tryz.prog 60 (Zq Tryz.f35) [1, 1, 1, 1, 1, 1, 0, 1, 0] (ZbS tab Tryz.f35.results (ZbX (.tup [.c (.sl (r.1.map Ze.cells)), .c (.v (.int .i64 r.2))]) []))) ⟨[(0, .c none (.sl (s.map Ze.cells))), (9, .c (some (9, 45)) (.sl (([(Ze.mk name_ r5)]).map Ze.cells))), (10, .c (some (10, 45)) (.sl (ZoL.map Ze.cells))), (11, .c none (.v (.int .i64 ((ZlA : Nat) : Int))))], []⟩

def Zb3 (s : (List Ze)) (name_ : ByteArray) (t : Za) : Option ((List Ze) × Int) :=
 ZaQ s name_ t >>= fun r3 =>
 if r3 = true then
 some (([] : List Ze), 23)
 else
 Z7 s t >>= fun r5 =>
 if (r5.fOp == 0) = true then
 some (([] : List Ze), 3)
 else
 Zdm s name_ r5 ([] : List Ze) 0 s
def Zb3.M (s : (List Ze)) (name_ : ByteArray) (t : Za) (r : (List Ze) × Int) : Prop :=
 Zk Tryz.prog 35 [.c none (.sl (s.map Ze.cells)), .c none (.v (.string name_)), .agg [.v (.int .i64 t.fOp), .v (.string t.fName), .sl (t.fBound.fArgs.map Zi.cells), .sl (t.fKids.map Za.cells)]] [] (fun d b => d = .tup [.c (.sl (r.1.map Ze.cells)), .c (.v (.int .i64 r.2))] ∧ b = [])

mutual
def Zz (Zav : (List (ByteArray × Int))) (ZE : (List Ze)) (Zbu : (List Zn)) : Option (Int × Zr × (List Zn)) :=
 if (decide (((Zbu.length : Nat) : Int) > 0)) = true then
 (ixI Zbu (IntKind.i64.wrap (((Zbu.length : Nat) : Int) - 1))) >>= fun ZBB =>
 ZaC (Zr.mk ZE Zav) ZBB.e0 >>= fun ZgN =>
 (ixI Zbu (IntKind.i64.wrap (((Zbu.length : Nat) : Int) - 1))) >>= fun ZBz =>
 ZaC (Zr.mk ZE Zav) ZBz.e1 >>= fun ZgO =>
 (slL Zbu ((0 : Nat) : Int) (IntKind.i64.wrap (((Zbu.length : Nat) : Int) - 1))) >>= fun Zix =>
 if (((ZgN.fOp == 1) && (ZgO.fOp == 1)) && (ZgN.fName.toList == ZgO.fName.toList)) = true then
 Zp 0 Zav ZE Zix
 else
 if (ZgN.fOp == 1) = true then
 Zaq (Zr.mk ZE Zav) ZgN.fName ZgO >>= fun Zvi =>
 Zp Zvi.1 Zvi.2.fat Zvi.2.flist Zix
 else
 if (ZgO.fOp == 1) = true then
 Zaq (Zr.mk ZE Zav) ZgO.fName ZgN >>= fun Zva =>
 Zp Zva.1 Zva.2.fat Zva.2.flist Zix
 else
 if (((ZgN.fOp == 2) && (ZgO.fOp == 2)) && (ZgN.fName.toList == ZgO.fName.toList)) = true then
 Zp 0 Zav ZE Zix
 else
 if ((ZgN.fOp == 3) && (ZgO.fOp == 3)) = true then
 (ixI ZgN.fKids 1) >>= fun Ztp =>
 (ixI ZgO.fKids 1) >>= fun Ztx =>
 (ixI ZgN.fKids 0) >>= fun ZsS =>
 (ixI ZgO.fKids 0) >>= fun ZdJ =>
 ZK ((Zix.length + ([(Zn.mk Ztp Ztx), (Zn.mk ZsS ZdJ)]).length) * 144 ≤ 140737488355328) >>= fun _ =>
 Zp 0 Zav ZE (Zix ++ ([(Zn.mk Ztp Ztx), (Zn.mk ZsS ZdJ)]))
 else
 Zp 22 Zav ZE Zix
 else
 some (0, Zr.mk ZE Zav, Zbu)
 partial_fixpoint
def Zp (e_7 : Int) (Zav : (List (ByteArray × Int))) (ZE : (List Ze)) (Zbu : (List Zn)) : Option (Int × Zr × (List Zn)) :=
 if (e_7 != 0) = true then
 some (e_7, Zr.mk ([] : List Ze) ([] : List (ByteArray × Int)), Zbu)
 else
 Zz Zav ZE Zbu
 partial_fixpoint
end
def Zz.M (Zav : (List (ByteArray × Int))) (ZE : (List Ze)) (Zbu : (List Zn)) (r : Int × Zr × (List Zn)) : Prop :=
 AWL Tryz.prog 124 (Code.sub (Zq Tryz.f32) [1, 0, 0, 0]) (Code.cont Tryz.prog 124 (Zq Tryz.f32) [1, 0, 0] (ZbS tab Tryz.f32.results (ZbX (.c none (.v (.int .i64 r.1))) [(1000, [(none, .rs 7001 r.2.1.flist.length), (none, .rf 1002)]), (1002, [(none, .ob 109 (r.2.1.fat.map (ZdK c_S Zb6)))]), (7001, [(none, .ob 90 (r.2.1.flist.map Ze.cells))]), (7003, [(none, .ob 76 (r.2.2.map Zn.cells))])]))) ⟨[(0, .ptr 1000 0), (1, .c none (.rs 7003 Zbu.length))], [(1000, [(none, .rs 7001 ZE.length), (none, .rf 1002)]), (1002, [(none, .ob 109 (Zav.map (ZdK c_S Zb6)))]), (7001, [(none, .ob 90 (ZE.map Ze.cells))]), (7003, [(none, .ob 76 (Zbu.map Zn.cells))])]⟩
def Zp.M (e_7 : Int) (Zav : (List (ByteArray × Int))) (ZE : (List Ze)) (Zbu : (List Zn)) (r : Int × Zr × (List Zn)) : Prop :=
 AWP Tryz.prog 124 (Code.sub (Zq Tryz.f32) [1, 0, 0, 0, 1, 0, 1, 1, 1, 1]) (Code.cont Tryz.prog 124 (Zq Tryz.f32) [1, 0, 0, 0, 1, 0, 1, 1, 1, 1] (ZbS tab Tryz.f32.results (ZbX (.c none (.v (.int .i64 r.1))) [(1000, [(none, .rs 7001 r.2.1.flist.length), (none, .rf 1002)]), (1002, [(none, .ob 109 (r.2.1.fat.map (ZdK c_S Zb6)))]), (7001, [(none, .ob 90 (r.2.1.flist.map Ze.cells))]), (7003, [(none, .ob 76 (r.2.2.map Zn.cells))])]))) ⟨[(0, .ptr 1000 0), (1, .c none (.rs 7003 Zbu.length)), (7, .c none (.v (.int .i64 e_7)))], [(1000, [(none, .rs 7001 ZE.length), (none, .rf 1002)]), (1002, [(none, .ob 109 (Zav.map (ZdK c_S Zb6)))]), (7001, [(none, .ob 90 (ZE.map Ze.cells))]), (7003, [(none, .ob 76 (Zbu.map Zn.cells))])]⟩
theorem Zjc : (∀ (Zav : (List (ByteArray × Int))) (ZE : (List Ze)) (Zbu : (List Zn)), ∀ r, Zz Zav ZE Zbu = some r → Zz.M Zav ZE Zbu r) ∧ (∀ (e_7 : Int) (Zav : (List (ByteArray × Int))) (ZE : (List Ze)) (Zbu : (List Zn)), ∀ r, Zp e_7 Zav ZE Zbu = some r → Zp.M e_7 Zav ZE Zbu r) := by
 refine Zz.mutual_partial_correctness Zz.M Zp.M ?_ ?_
 ·intro unify_solver_solve_k2' Zb8 Zav ZE Zbu r hF
  unfold Zz.M
  refine AWL.step ?_
  refine AWP.seq ?_
  refine AWP.seq ?_
  refine ns ?_
  intro hlen101
  (try rw [List.length_map] at hlen101)
  (try rw [List.length_map])
  refine st ?_
  refine nw ?_
  refine Zj hF (fun ZEq hF => ?_) (fun ZEq hF => ?_)
  ·refine nw ?_
   refine AWP.block ?_
   refine AWP.seq ?_
   obtain ⟨ZBB, ZCO, ZBM, hF⟩ := Zej hF
   obtain ⟨ZgN, ZEY, hF⟩ := bind_some hF
   obtain ⟨ZBz, ZCP, ZBG, hF⟩ := Zej hF
   obtain ⟨ZgO, ZEy, hF⟩ := bind_some hF
   refine nn ?_
   refine Or.inl (Or.inl (Exists.intro 20 (Exists.intro [[], [], [], [], [], [], [], [], [1000, 7001, 1002], [], [], [], [], [], [], [], [], [1000, 7001, 1002], [5], [6]] (Exists.intro [([11, 12, 13, 14, 15, 16, 17, 18, 19, 20, 21, 22, 23, 24, 25, 26, 27, 28, 5, 6], [5, 6], []), ([11, 12, 13, 14, 15, 16, 17, 18, 19, 20, 21, 22, 23, 24, 25, 26, 27, 28, 5, 6], [5, 6], []), ([11, 12, 13, 14, 15, 16, 17, 18, 19, 20, 21, 22, 23, 24, 25, 26, 27, 28, 5, 6], [5, 6], []), ([11, 12, 14, 15, 16, 17, 18, 19, 20, 21, 22, 23, 24, 25, 26, 27, 28, 5, 6], [5, 6], []), ([11, 12, 15, 16, 17, 18, 19, 20, 21, 22, 23, 24, 25, 26, 27, 28, 5, 6], [5, 6], []), ([11, 16, 17, 18, 19, 20, 21, 22, 23, 24, 25, 26, 27, 28, 5, 6], [5, 6], []), ([11, 17, 18, 19, 20, 21, 22, 23, 24, 25, 26, 27, 28, 5, 6], [5, 6], []), ([11, 18, 19, 20, 21, 22, 23, 24, 25, 26, 27, 28, 5, 6], [5, 6], []), ([19, 20, 21, 22, 23, 24, 25, 26, 27, 28, 5, 6], [5, 6], [1000, 7001, 1002]), ([11, 12, 13, 14, 15, 16, 17, 18, 19, 20, 21, 22, 23, 24, 25, 26, 27, 28, 5, 6], [1000, 7001, 1002, 5, 6], []), ([11, 12, 13, 14, 15, 16, 17, 18, 19, 20, 21, 22, 23, 24, 25, 26, 27, 28, 5, 6], [1000, 7001, 1002, 5, 6], []), ([11, 12, 13, 14, 15, 16, 17, 18, 19, 20, 21, 22, 23, 24, 25, 26, 27, 28, 5, 6], [1000, 7001, 1002, 5, 6], []), ([11, 12, 13, 14, 15, 16, 17, 18, 19, 20, 21, 23, 24, 25, 26, 27, 28, 5, 6], [1000, 7001, 1002, 5, 6], []), ([11, 12, 13, 14, 15, 16, 17, 18, 19, 20, 21, 24, 25, 26, 27, 28, 5, 6], [1000, 7001, 1002, 5, 6], []), ([11, 12, 13, 14, 15, 16, 17, 18, 19, 20, 25, 26, 27, 28, 5, 6], [1000, 7001, 1002, 5, 6], []), ([11, 12, 13, 14, 15, 16, 17, 18, 19, 20, 26, 27, 28, 5, 6], [1000, 7001, 1002, 5, 6], []), ([11, 12, 13, 14, 15, 16, 17, 18, 19, 20, 27, 28, 5, 6], [1000, 7001, 1002, 5, 6], []), ([28, 5, 6], [5, 6], [1000, 7001, 1002]), ([11, 12, 13, 14, 15, 16, 17, 18, 19, 20, 21, 22, 23, 24, 25, 26, 27, 28, 5, 6], [1000, 7001, 1002, 1000, 7001, 1002, 6], [5]), ([11, 12, 13, 14, 15, 16, 17, 18, 19, 20, 21, 22, 23, 24, 25, 26, 27, 28, 5, 6], [1000, 7001, 1002, 1000, 7001, 1002, 5], [6])] (Exists.intro [11, 12, 13, 14, 15, 16, 17, 18, 19, 20, 21, 22, 23, 24, 25, 26, 27, 28, 5, 6] (And.intro (by decide +kernel) ?_))))))
   refine dp ?_
   refine dp ?_
   refine dp ?_
   refine dl ?_
   refine dp ?_
   refine da (Ztj ZCO ZBM) ?_
   refine dp ?_
   refine dr (Zdx (Zn.cells_eq ZBB) ZBM) ?_
   (refine st ?_; apply Exists.intro; apply Exists.intro; apply And.intro; (focus ((conv => whnf); refine Exists.intro [(1000, 1000), (7001, 1001), (1002, 1002)] ?_; (conv => whnf); refine And.intro rfl ?_; (conv => whnf); refine Zk.mono (Zk.weak (rn []) (Zgh (Zr.mk ZE Zav) ZBB.e0 _ ZEY) rfl (WS.mk (tp (Zd (Zt (lc (lc (lc (lc Zo))))) Zc)) (Zf rfl (Zew (ZaH (by first | exact rfl | simp only [List.length_set])) (cc Zh)) (Zf rfl (cc Zh) (Zf rfl (cc Zh) Zb))))) ?_; rintro d b ⟨rfl, rfl⟩; exact And.intro rfl (And.intro rfl rfl))); apply And.intro; (focus exact rfl); (conv => whnf))
   refine dp ?_
   refine dp ?_
   refine dp ?_
   refine dl ?_
   refine dp ?_
   refine da (Ztj ZCP ZBG) ?_
   refine dp ?_
   refine dr (Zdx (Zn.cells_eq ZBz) ZBG) ?_
   (refine st ?_; apply Exists.intro; apply Exists.intro; apply And.intro; (focus ((conv => whnf); refine Exists.intro [(1000, 1000), (7001, 1001), (1002, 1002)] ?_; (conv => whnf); refine And.intro rfl ?_; (conv => whnf); refine Zk.mono (Zk.weak (rn []) (Zgh (Zr.mk ZE Zav) ZBz.e1 _ ZEy) rfl (WS.mk (tp (Zd (Zt (lc (lc (lc (lc Zo))))) Zc)) (Zf rfl (Zew (ZaH (by first | exact rfl | simp only [List.length_set])) (cc Zh)) (Zf rfl (cc Zh) (Zf rfl (cc Zh) Zb))))) ?_; rintro d b ⟨rfl, rfl⟩; exact And.intro rfl (And.intro rfl rfl))); apply And.intro; (focus exact rfl); (conv => whnf))
   refine dp ?_
   refine dp ?_
   refine st ?_
   refine AWP.seq ?_
   obtain ⟨Zix, ZD8, ZCt, Zz6, ZBQ, hF⟩ := ZyI hF
   refine ns ?_
   intro hlen111
   (try rw [List.length_map] at hlen111)
   (try rw [List.length_map])
   refine s3 ZD8 ZCt Zz6 ?_
   refine Exists.intro (Zix.map Zn.cells) (Exists.intro Zix.length (And.intro (ZEo ZBQ) (And.intro (ZB1 Zz6 ZBQ) ?_)))
   refine st ?_
   refine AWP.seq ?_
   refine ns ?_
   refine AWP.seq ?_
   refine AWP.block ?_
   refine AWP.seq ?_
   refine AWP.cutN (fun T => ∃ r, WS r T ⟨[(0, .ptr 1000 0), (1, .c none (.rs 7003 Zix.length)), (5, .ptr 5 0), (6, .ptr 6 0), (7, .c none (.v (.int .i64 0))), (34, .c none (.v (.bool (((ZgN.fOp == 1) && (ZgO.fOp == 1)) && (ZgN.fName.toList == ZgO.fName.toList)))))], [(5, [(none, .v (.int .i64 ZgN.fOp)), (none, .v (.string ZgN.fName)), (none, .sl (ZgN.fBound.fArgs.map Zi.cells)), (none, .sl (ZgN.fKids.map Za.cells))]), (6, [(none, .v (.int .i64 ZgO.fOp)), (none, .v (.string ZgO.fName)), (none, .sl (ZgO.fBound.fArgs.map Zi.cells)), (none, .sl (ZgO.fKids.map Za.cells))]), (1000, [(none, .rs 7001 ZE.length), (none, .rf 1002)]), (1002, [(none, .ob 109 (Zav.map (ZdK c_S Zb6)))]), (7001, [(none, .ob 90 (ZE.map Ze.cells))]), (7003, [(none, .ob 76 (Zix.map Zn.cells))])]⟩) ?_ (fun T hw => ?_)
   ·refine ns ?_
    refine Zl true (fun Zxa => ?_) (fun Zxa => ?_)
    ·(conv => whnf)
     refine st ?_
     refine Zl true (fun ZAL => ?_) (fun ZAL => ?_)
     ·(conv => whnf)
      refine st ?_
      exact wx (WS.mk (tp (Zd (Zs (ZaH (by first | exact rfl | simp only [List.length_set]))) (tp (tp (tc (Zd (Zs (web (And.intro Zxa ZAL))) Zc)))))) (Zf rfl (cc (cc (cc (cc Zh)))) (Zf rfl (cc (cc (cc (cc Zh)))) (Zf rfl (Zew (ZaH (by first | exact rfl | simp only [List.length_set])) (cc Zh)) (Zf rfl (cc Zh) (Zf rfl (cc Zh) (Zf rfl (cc Zh) Zb)))))))
     ·(conv => whnf)
      refine st ?_
      exact wx (WS.mk (tp (Zd (Zs (ZaH (by first | exact rfl | simp only [List.length_set]))) (tp (tp (tc (Zd (Zs (web (And.intro Zxa ZAL))) Zc)))))) (Zf rfl (cc (cc (cc (cc Zh)))) (Zf rfl (cc (cc (cc (cc Zh)))) (Zf rfl (Zew (ZaH (by first | exact rfl | simp only [List.length_set])) (cc Zh)) (Zf rfl (cc Zh) (Zf rfl (cc Zh) (Zf rfl (cc Zh) Zb)))))))
    ·(conv => whnf)
     refine st ?_
     exact wx (WS.mk (tp (Zd (Zs (ZaH (by first | exact rfl | simp only [List.length_set]))) (tp (tp (tc (Zd (Zs (web Zxa)) Zc)))))) (Zf rfl (cc (cc (cc (cc Zh)))) (Zf rfl (cc (cc (cc (cc Zh)))) (Zf rfl (Zew (ZaH (by first | exact rfl | simp only [List.length_set])) (cc Zh)) (Zf rfl (cc Zh) (Zf rfl (cc Zh) (Zf rfl (cc Zh) Zb)))))))
   obtain ⟨r0, hw⟩ := hw
   (conv => whnf)
   refine AWP.weak r0 hw ?_
   refine nw ?_
   refine Zj hF (fun ZEn hF => ?_) (fun ZEn hF => ?_)
   ·refine nw ?_
    refine AWP.weak (rn []) ?_ (Zb8 0 Zav ZE Zix _ hF)
    exact (WS.mk (tp (Zd (Zs (ZaH (by first | exact rfl | simp only [List.length_set]))) (tc Zc))) (Zf rfl (Zew (ZaH (by first | exact rfl | simp only [List.length_set])) (cc Zh)) (Zf rfl (cc Zh) (Zf rfl (cc Zh) (Zf rfl (cc Zh) Zb)))))
   ·refine AWP.seq ?_
    refine ns ?_
    refine nw ?_
    refine Zj hF (fun ZE2 hF => ?_) (fun ZE2 hF => ?_)
    ·obtain ⟨Zvi, ZEN, hF⟩ := bind_some hF
     refine ns ?_
     refine Exists.intro [] (Exists.intro [(1000, 1000), (7001, 7001), (1002, 1002)] (Exists.intro [] ?_))
     refine st ?_
     refine cm (Zk.weak (rn []) (Zh3 (Zr.mk ZE Zav) ZgN.fName ZgO _ ZEN) rfl (WS.mk (tp (tc (Zd (Zt (lc (lc (lc (lc Zo))))) Zc))) (Zf rfl (Zew (ZaH (by first | exact rfl | simp only [List.length_set])) (cc Zh)) (Zf rfl (cc Zh) (Zf rfl (cc Zh) Zb))))) ?_
     refine st ?_
     refine AWP.weak (rn []) ?_ (Zb8 Zvi.1 Zvi.2.fat Zvi.2.flist Zix _ hF)
     exact (WS.mk (tp (Zd (Zs (ZaH (by first | exact rfl | simp only [List.length_set]))) (tc Zc))) (Zf rfl (Zew (ZaH (by first | exact rfl | simp only [List.length_set])) (cc Zh)) (Zf rfl (cc Zh) (Zf rfl (cc Zh) (Zf rfl (cc Zh) Zb)))))
    ·refine AWP.seq ?_
     refine ns ?_
     refine nw ?_
     refine Zj hF (fun ZET hF => ?_) (fun ZET hF => ?_)
     ·obtain ⟨Zva, ZFp, hF⟩ := bind_some hF
      refine ns ?_
      refine Exists.intro [] (Exists.intro [(1000, 1000), (7001, 7001), (1002, 1002)] (Exists.intro [] ?_))
      refine st ?_
      refine cm (Zk.weak (rn []) (Zh3 (Zr.mk ZE Zav) ZgO.fName ZgN _ ZFp) rfl (WS.mk (tp (tc (Zd (Zt (lc (lc (lc (lc Zo))))) Zc))) (Zf rfl (Zew (ZaH (by first | exact rfl | simp only [List.length_set])) (cc Zh)) (Zf rfl (cc Zh) (Zf rfl (cc Zh) Zb))))) ?_
      refine st ?_
      refine AWP.weak (rn []) ?_ (Zb8 Zva.1 Zva.2.fat Zva.2.flist Zix _ hF)
      exact (WS.mk (tp (Zd (Zs (ZaH (by first | exact rfl | simp only [List.length_set]))) (tc Zc))) (Zf rfl (Zew (ZaH (by first | exact rfl | simp only [List.length_set])) (cc Zh)) (Zf rfl (cc Zh) (Zf rfl (cc Zh) (Zf rfl (cc Zh) Zb)))))
     ·refine AWP.seq ?_
      refine AWP.cutN (fun T => ∃ r, WS r T ⟨[(0, .ptr 1000 0), (1, .c none (.rs 7003 Zix.length)), (5, .ptr 5 0), (6, .ptr 6 0), (7, .c none (.v (.int .i64 0))), (68, .c none (.v (.bool (((ZgN.fOp == 2) && (ZgO.fOp == 2)) && (ZgN.fName.toList == ZgO.fName.toList)))))], [(5, [(none, .v (.int .i64 ZgN.fOp)), (none, .v (.string ZgN.fName)), (none, .sl (ZgN.fBound.fArgs.map Zi.cells)), (none, .sl (ZgN.fKids.map Za.cells))]), (6, [(none, .v (.int .i64 ZgO.fOp)), (none, .v (.string ZgO.fName)), (none, .sl (ZgO.fBound.fArgs.map Zi.cells)), (none, .sl (ZgO.fKids.map Za.cells))]), (1000, [(none, .rs 7001 ZE.length), (none, .rf 1002)]), (1002, [(none, .ob 109 (Zav.map (ZdK c_S Zb6)))]), (7001, [(none, .ob 90 (ZE.map Ze.cells))]), (7003, [(none, .ob 76 (Zix.map Zn.cells))])]⟩) ?_ (fun T hw => ?_)
      ·refine ns ?_
       refine Zl true (fun ZsC => ?_) (fun ZsC => ?_)
       ·(conv => whnf)
        refine st ?_
        refine Zl true (fun ZuO => ?_) (fun ZuO => ?_)
        ·(conv => whnf)
         refine st ?_
         exact wx (WS.mk (tp (Zd (Zs (ZaH (by first | exact rfl | simp only [List.length_set]))) (tp (tp (tc (Zd (Zs (web (And.intro ZsC ZuO))) Zc)))))) (Zf rfl (cc (cc (cc (cc Zh)))) (Zf rfl (cc (cc (cc (cc Zh)))) (Zf rfl (Zew (ZaH (by first | exact rfl | simp only [List.length_set])) (cc Zh)) (Zf rfl (cc Zh) (Zf rfl (cc Zh) (Zf rfl (cc Zh) Zb)))))))
        ·(conv => whnf)
         refine st ?_
         exact wx (WS.mk (tp (Zd (Zs (ZaH (by first | exact rfl | simp only [List.length_set]))) (tp (tp (tc (Zd (Zs (web (And.intro ZsC ZuO))) Zc)))))) (Zf rfl (cc (cc (cc (cc Zh)))) (Zf rfl (cc (cc (cc (cc Zh)))) (Zf rfl (Zew (ZaH (by first | exact rfl | simp only [List.length_set])) (cc Zh)) (Zf rfl (cc Zh) (Zf rfl (cc Zh) (Zf rfl (cc Zh) Zb)))))))
       ·(conv => whnf)
        refine st ?_
        exact wx (WS.mk (tp (Zd (Zs (ZaH (by first | exact rfl | simp only [List.length_set]))) (tp (tp (tc (Zd (Zs (web ZsC)) Zc)))))) (Zf rfl (cc (cc (cc (cc Zh)))) (Zf rfl (cc (cc (cc (cc Zh)))) (Zf rfl (Zew (ZaH (by first | exact rfl | simp only [List.length_set])) (cc Zh)) (Zf rfl (cc Zh) (Zf rfl (cc Zh) (Zf rfl (cc Zh) Zb)))))))
      obtain ⟨r0, hw⟩ := hw
      (conv => whnf)
      refine AWP.weak r0 hw ?_
      refine nw ?_
      refine Zj hF (fun ZFv hF => ?_) (fun ZFv hF => ?_)
      ·refine nw ?_
       refine AWP.weak (rn []) ?_ (Zb8 0 Zav ZE Zix _ hF)
       exact (WS.mk (tp (Zd (Zs (ZaH (by first | exact rfl | simp only [List.length_set]))) (tc Zc))) (Zf rfl (Zew (ZaH (by first | exact rfl | simp only [List.length_set])) (cc Zh)) (Zf rfl (cc Zh) (Zf rfl (cc Zh) (Zf rfl (cc Zh) Zb)))))
      ·refine AWP.seq ?_
       refine AWP.cutN (fun T => ∃ r, WS r T ⟨[(0, .ptr 1000 0), (1, .c none (.rs 7003 Zix.length)), (5, .ptr 5 0), (6, .ptr 6 0), (7, .c none (.v (.int .i64 0))), (84, .c none (.v (.bool ((ZgN.fOp == 3) && (ZgO.fOp == 3)))))], [(5, [(none, .v (.int .i64 ZgN.fOp)), (none, .v (.string ZgN.fName)), (none, .sl (ZgN.fBound.fArgs.map Zi.cells)), (none, .sl (ZgN.fKids.map Za.cells))]), (6, [(none, .v (.int .i64 ZgO.fOp)), (none, .v (.string ZgO.fName)), (none, .sl (ZgO.fBound.fArgs.map Zi.cells)), (none, .sl (ZgO.fKids.map Za.cells))]), (1000, [(none, .rs 7001 ZE.length), (none, .rf 1002)]), (1002, [(none, .ob 109 (Zav.map (ZdK c_S Zb6)))]), (7001, [(none, .ob 90 (ZE.map Ze.cells))]), (7003, [(none, .ob 76 (Zix.map Zn.cells))])]⟩) ?_ (fun T hw => ?_)
       ·refine ns ?_
        refine Zl true (fun ZzC => ?_) (fun ZzC => ?_)
        ·(conv => whnf)
         refine st ?_
         exact wx (WS.mk (tp (Zd (Zs (ZaH (by first | exact rfl | simp only [List.length_set]))) (tp (tp (tc (Zd (Zs (web ZzC)) Zc)))))) (Zf rfl (cc (cc (cc (cc Zh)))) (Zf rfl (cc (cc (cc (cc Zh)))) (Zf rfl (Zew (ZaH (by first | exact rfl | simp only [List.length_set])) (cc Zh)) (Zf rfl (cc Zh) (Zf rfl (cc Zh) (Zf rfl (cc Zh) Zb)))))))
        ·(conv => whnf)
         refine st ?_
         exact wx (WS.mk (tp (Zd (Zs (ZaH (by first | exact rfl | simp only [List.length_set]))) (tp (tp (tc (Zd (Zs (web ZzC)) Zc)))))) (Zf rfl (cc (cc (cc (cc Zh)))) (Zf rfl (cc (cc (cc (cc Zh)))) (Zf rfl (Zew (ZaH (by first | exact rfl | simp only [List.length_set])) (cc Zh)) (Zf rfl (cc Zh) (Zf rfl (cc Zh) (Zf rfl (cc Zh) Zb)))))))
       obtain ⟨r0, hw⟩ := hw
       (conv => whnf)
       refine AWP.weak r0 hw ?_
       refine nw ?_
       refine Zj hF (fun ZEE hF => ?_) (fun ZEE hF => ?_)
       ·obtain ⟨Ztp, hx1480, ZES, hF⟩ := Zej hF
        obtain ⟨Ztx, hx1490, ZEv, hF⟩ := Zej hF
        obtain ⟨ZsS, hx1500, ZBR, hF⟩ := Zej hF
        obtain ⟨ZdJ, ZBV, ZyZ, hF⟩ := Zej hF
        obtain ⟨ZFm, hF⟩ := Zy hF
        refine nn ?_
        refine Or.inl (Or.inl (Exists.intro 20 (Exists.intro [[], [], [], [], [], [], [], [], [], [], [], [], [], [], [], [], [], [], [], []] (Exists.intro [([93, 94, 95, 96, 97, 98, 99, 100, 101, 102, 103, 104, 105, 106, 107, 108, 109, 110, 111, 112], [], []), ([93, 94, 95, 96, 97, 98, 99, 100, 101, 102, 103, 104, 105, 106, 107, 108, 109, 110, 111, 112], [], []), ([93, 95, 96, 97, 98, 99, 100, 101, 102, 103, 104, 105, 106, 107, 108, 109, 110, 111, 112], [], []), ([93, 96, 97, 98, 99, 100, 101, 102, 103, 104, 105, 106, 107, 108, 109, 110, 111, 112], [], []), ([93, 97, 98, 99, 100, 101, 102, 103, 104, 105, 106, 107, 108, 109, 110, 111, 112], [], []), ([93, 94, 95, 96, 97, 98, 99, 100, 101, 102, 103, 104, 105, 106, 107, 108, 109, 110, 111, 112], [], []), ([93, 94, 95, 96, 97, 99, 100, 101, 102, 103, 104, 105, 106, 107, 108, 109, 110, 111, 112], [], []), ([93, 94, 95, 96, 97, 100, 101, 102, 103, 104, 105, 106, 107, 108, 109, 110, 111, 112], [], []), ([93, 94, 95, 96, 97, 101, 102, 103, 104, 105, 106, 107, 108, 109, 110, 111, 112], [], []), ([93, 102, 103, 104, 105, 106, 107, 108, 109, 110, 111, 112], [], []), ([93, 94, 95, 96, 97, 98, 99, 100, 101, 102, 103, 104, 105, 106, 107, 108, 109, 110, 111, 112], [], []), ([93, 94, 95, 96, 97, 98, 99, 100, 101, 102, 104, 105, 106, 107, 108, 109, 110, 111, 112], [], []), ([93, 94, 95, 96, 97, 98, 99, 100, 101, 102, 105, 106, 107, 108, 109, 110, 111, 112], [], []), ([93, 94, 95, 96, 97, 98, 99, 100, 101, 102, 106, 107, 108, 109, 110, 111, 112], [], []), ([93, 94, 95, 96, 97, 98, 99, 100, 101, 102, 103, 104, 105, 106, 107, 108, 109, 110, 111, 112], [], []), ([93, 94, 95, 96, 97, 98, 99, 100, 101, 102, 103, 104, 105, 106, 108, 109, 110, 111, 112], [], []), ([93, 94, 95, 96, 97, 98, 99, 100, 101, 102, 103, 104, 105, 106, 109, 110, 111, 112], [], []), ([93, 94, 95, 96, 97, 98, 99, 100, 101, 102, 103, 104, 105, 106, 110, 111, 112], [], []), ([93, 94, 95, 96, 97, 98, 99, 100, 101, 102, 111, 112], [], []), ([93, 112], [], [])] (Exists.intro [93, 94, 95, 96, 97, 98, 99, 100, 101, 102, 103, 104, 105, 106, 107, 108, 109, 110, 111, 112] (And.intro (by decide +kernel) ?_))))))
        refine dp ?_
        refine dp ?_
        refine dp ?_
        refine dr (Zdx (Za.cells_eq Ztp) ZES) ?_
        refine dp ?_
        refine dp ?_
        refine dp ?_
        refine dr (Zdx (Za.cells_eq Ztx) ZEv) ?_
        refine dp ?_
        refine dp ?_
        refine dp ?_
        refine dp ?_
        refine dr (Zdx (Za.cells_eq ZsS) ZBR) ?_
        refine dp ?_
        refine dp ?_
        refine dp ?_
        refine dr (Zdx (Za.cells_eq ZdJ) ZyZ) ?_
        refine dp ?_
        refine dp ?_
        refine de (Zcm (f := Zn.cells) (Zea (Zn.cells_eq (Zn.mk Ztp Ztx)) (lc (lc (lc (lc (lc (lc (lc (lc Zo))))))))) (Zcm (f := Zn.cells) (Zea (Zn.cells_eq (Zn.mk ZsS ZdJ)) (lc (lc (lc (lc (lc (lc (lc (lc Zo))))))))) (Zaw (f := Zn.cells)))) ?_
        refine sa (fun l => ZbW l (fun x => Zn.cells_len x)) ZFm ?_
        refine Exists.intro (([(Zn.mk Ztp Ztx), (Zn.mk ZsS ZdJ)]).map Zn.cells) (Exists.intro ((Zix ++ ([(Zn.mk Ztp Ztx), (Zn.mk ZsS ZdJ)])).map Zn.cells) (Exists.intro (Zix ++ ([(Zn.mk Ztp Ztx), (Zn.mk ZsS ZdJ)])).length (And.intro (WE.refl _) (And.intro (Zv6 (by first | exact rfl | simp only [List.length_set])) (And.intro (ZvD (by first | exact rfl | simp only [List.length_set]) (by first | exact List.length_map _ | exact rfl)) ?_)))))
        refine st ?_
        refine AWP.weak (rn []) ?_ (Zb8 0 Zav ZE (Zix ++ ([(Zn.mk Ztp Ztx), (Zn.mk ZsS ZdJ)])) _ hF)
        exact (WS.mk (tp (Zd (Zs (ZaH (by first | exact rfl | simp only [List.length_set]))) (tc Zc))) (Zf rfl (Zew (ZaH (by first | exact rfl | simp only [List.length_set])) (cc Zh)) (Zf rfl (cc Zh) (Zf rfl (cc Zh) (Zf rfl (cc Zh) Zb)))))
       ·refine ns ?_
        refine AWP.weak (rn []) ?_ (Zb8 22 Zav ZE Zix _ hF)
        exact (WS.mk (tp (Zd (Zs (ZaH (by first | exact rfl | simp only [List.length_set]))) (tc Zc))) (Zf rfl (Zew (ZaH (by first | exact rfl | simp only [List.length_set])) (cc Zh)) (Zf rfl (cc Zh) (Zf rfl (cc Zh) (Zf rfl (cc Zh) Zb)))))
  ·refine nw ?_
   refine AWP.seq ?_
   refine ns ?_
   obtain rfl := Zg hF
   refine ns ?_
   refine Exists.intro [(1000, 1000), (7001, 7001), (1002, 1002), (7003, 7003)] ?_
   refine st ?_
   exact wx (WS.mk (tc Zc) (Zf rfl (Zew (ZaH (by first | exact rfl | simp only [List.length_set])) (cc Zh)) (Zf rfl (cc Zh) (Zf rfl (cc Zh) (Zf rfl (cc Zh) Zb)))))
 ·intro unify_solver_solve_l1' ZjD e_7 Zav ZE Zbu r hF
  unfold Zp.M
  refine AWP.seq ?_
  refine ns ?_
  refine nw ?_
  refine Zj hF (fun ZF3 hF => ?_) (fun ZF3 hF => ?_)
  ·refine AWP.seq ?_
   refine ns ?_
   refine AWP.seq ?_
   refine ns ?_
   refine AWP.thawB 1000 0 7001 45 rfl rfl ?_
   refine AWP.force ?_
   (conv => whnf)
   refine AWP.seq ?_
   refine ns ?_
   obtain rfl := Zg hF
   refine ns ?_
   refine Exists.intro [(1000, 1000), (7001, 7001), (1002, 1002), (7003, 7003)] ?_
   refine st ?_
   exact wx (WS.mk (tc Zc) (Zf rfl (Zew (ZaH (by first | exact rfl | simp only [List.length_set])) (cc Zh)) (Zf rfl (cc Zh) (Zf rfl (cc Zh) (Zf rfl (cc Zh) Zb)))))
  ·refine nw ?_
   refine AWL.weak (rn []) ?_ (ZjD Zav ZE Zbu _ hF)
   exact (WS.mk (tp (Zd (Zs (ZaH (by first | exact rfl | simp only [List.length_set]))) Zc)) (Zf rfl (Zew (ZaH (by first | exact rfl | simp only [List.length_set])) (cc Zh)) (Zf rfl (cc Zh) (Zf rfl (cc Zh) (Zf rfl (cc Zh) Zb)))))
theorem ZjC : ∀ (Zav : (List (ByteArray × Int))) (ZE : (List Ze)) (Zbu : (List Zn)), ∀ r, Zz Zav ZE Zbu = some r → Zz.M Zav ZE Zbu r := Zjc.1

def Zcp (s : Zr) (todo : (List Zn)) : Option (Int × Zr × (List Zn)) :=
 Zz s.fat s.flist todo
def Zcp.M (s : Zr) (todo : (List Zn)) (r : Int × Zr × (List Zn)) : Prop :=
 Zk Tryz.prog 32 [.ptr 1000 0, .c none (.rs 7003 todo.length)] [(1000, [(none, .rs 7001 s.flist.length), (none, .rf 1002)]), (1002, [(none, .ob 109 (s.fat.map (ZdK c_S Zb6)))]), (7001, [(none, .ob 90 (s.flist.map Ze.cells))]), (7003, [(none, .ob 76 (todo.map Zn.cells))])] (fun d b => d = .c none (.v (.int .i64 r.1)) ∧ b = [(1000, [(none, .rs 7001 r.2.1.flist.length), (none, .rf 1002)]), (1002, [(none, .ob 109 (r.2.1.fat.map (ZdK c_S Zb6)))]), (7001, [(none, .ob 90 (r.2.1.flist.map Ze.cells))]), (7003, [(none, .ob 76 (r.2.2.map Zn.cells))])])
theorem Zlk (s : Zr) (todo : (List Zn)) (r : Int × Zr × (List Zn)) (hF : Zcp s todo = some r) : Zcp.M s todo r := by
 unfold Zcp at hF
 unfold Zcp.M
 refine en Tryz.func32 ?_
 refine AWP.seq ?_
 refine ns ?_
 refine AWP.seq ?_
 refine AWP.block ?_
 refine AWP.loop ?_
 refine AWL.weak (rn []) ?_ (ZjC s.fat s.flist todo _ hF)
 exact (WS.mk (tp (Zd (Zs (ZaH (by first | exact rfl | simp only [List.length_set]))) Zc)) (Zf rfl (Zew (ZaH (by first | exact rfl | simp only [List.length_set])) (cc Zh)) (Zf rfl (cc Zh) (Zf rfl (cc Zh) (Zf rfl (cc Zh) Zb)))))

def Zv (s_6 : (List Ze)) (e_7 : Int) (ZdZ : (List Zn)) : Option ((List Ze) × Int) :=
 if ((decide (((ZdZ.length : Nat) : Int) > 0)) && (e_7 == 0)) = true then
 (ixI ZdZ (IntKind.i64.wrap (((ZdZ.length : Nat) : Int) - 1))) >>= fun ZGZ =>
 ZcI s_6 ZGZ.e0 >>= fun ZrY =>
 (ixI ZdZ (IntKind.i64.wrap (((ZdZ.length : Nat) : Int) - 1))) >>= fun ZGs =>
 ZcI s_6 ZGs.e1 >>= fun ZrM =>
 (slL ZdZ ((0 : Nat) : Int) (IntKind.i64.wrap (((ZdZ.length : Nat) : Int) - 1))) >>= fun ZvV =>
 if (((ZrY.fOp == 1) && (ZrM.fOp == 1)) && (ZrY.fName.toList == ZrM.fName.toList)) = true then
 Zv s_6 e_7 ZvV
 else
 if (ZrY.fOp == 1) = true then
 Zb3 s_6 ZrY.fName ZrM >>= fun ZEM =>
 Zv ZEM.1 ZEM.2 ZvV
 else
 if (ZrM.fOp == 1) = true then
 Zb3 s_6 ZrM.fName ZrY >>= fun ZEf =>
 Zv ZEf.1 ZEf.2 ZvV
 else
 if (((ZrY.fOp == 2) && (ZrM.fOp == 2)) && (ZrY.fName.toList == ZrM.fName.toList)) = true then
 Zv s_6 e_7 ZvV
 else
 if ((ZrY.fOp == 3) && (ZrM.fOp == 3)) = true then
 (ixI ZrY.fKids 1) >>= fun ZEU =>
 (ixI ZrM.fKids 1) >>= fun ZEJ =>
 (ixI ZrY.fKids 0) >>= fun ZFN =>
 (ixI ZrM.fKids 0) >>= fun ZFP =>
 ZK ((ZvV.length + ([(Zn.mk ZEU ZEJ), (Zn.mk ZFN ZFP)]).length) * 144 ≤ 140737488355328) >>= fun _ =>
 Zv s_6 e_7 (ZvV ++ ([(Zn.mk ZEU ZEJ), (Zn.mk ZFN ZFP)]))
 else
 Zv s_6 22 ZvV
 else
 if (e_7 != 0) = true then
 some (([] : List Ze), e_7)
 else
 some (s_6, 0)
 partial_fixpoint
def Zv.M (s_6 : (List Ze)) (e_7 : Int) (ZdZ : (List Zn)) (r : (List Ze) × Int) : Prop :=
 AWL Tryz.prog 162 (Code.sub (Zq Tryz.f16) [1, 1, 1, 1, 1, 0, 0, 0]) (Code.cont Tryz.prog 162 (Zq Tryz.f16) [1, 1, 1, 1, 1, 0, 0] (ZbS tab Tryz.f16.results (ZbX (.tup [.c (.sl (r.1.map Ze.cells)), .c (.v (.int .i64 r.2))]) []))) ⟨[(4, .c none (.rs 6004 ZdZ.length)), (6, .c none (.sl (s_6.map Ze.cells))), (7, .c none (.v (.int .i64 e_7)))], [(6004, [(none, .ob 76 (ZdZ.map Zn.cells))])]⟩

def Zco (Zi4 : (List Ze)) (l : (List Ze)) (x_8 : Nat) (ZbO : (List Ze)) : Option ((List Ze)) :=
 (match ZbO with
 | x17 :: ZCo =>
 Zb2 x17.fType >>= fun r22 =>
 ZK ((Zi4.length + ([(Ze.mk x17.fName r22)]).length) * 88 ≤ 140737488355328) >>= fun _ =>
 Zco (Zi4 ++ ([(Ze.mk x17.fName r22)])) l (x_8 + 1) ZCo
 | [] =>
 some Zi4)
 partial_fixpoint
def Zco.M (Zi4 : (List Ze)) (l : (List Ze)) (x_8 : Nat) (ZbO : (List Ze)) (r : (List Ze)) : Prop :=
 ∀ ZdO : List Ze, l = ZdO ++ ZbO → x_8 = ZdO.length → l.length ≤ maxLen → AWL Tryz.prog 23 (Code.sub (Zq Tryz.f33) [1, 1, 0, 1, 0, 0]) (Code.cont Tryz.prog 23 (Zq Tryz.f33) [1, 1, 0, 1, 0] (ZbS tab Tryz.f33.results (ZbX (.c (some (0, 45)) (.sl (r.map Ze.cells))) [(1000, [(none, .ob 90 (l.map Ze.cells))])]))) ⟨[(3, .c (some (3, 45)) (.sl (Zi4.map Ze.cells))), (6, .c none (.rs 1000 l.length)), (7, .c none (.v (.int .i64 ((l.length : Nat) : Int)))), (8, .c none (.v (.int .i64 ((x_8 : Nat) : Int))))], [(1000, [(none, .ob 90 (l.map Ze.cells))])]⟩
theorem Zn0 (Zi4 : (List Ze)) (l : (List Ze)) (x_8 : Nat) (ZbO : (List Ze)) : ∀ r, Zco Zi4 l x_8 ZbO = some r → Zco.M Zi4 l x_8 ZbO r := by
 refine Zco.partial_correctness l (fun Zi4 x_8 ZbO r => Zco.M Zi4 l x_8 ZbO r) ?_ Zi4 x_8 ZbO
 intro unify_fresh_l1' ZiD Zi4 x_8 ZbO r hF
 have Zoc := fun (Zi4 : (List Ze)) (_l : (List Ze)) (x_8 : Nat) (ZbO : (List Ze)) => ZiD Zi4 x_8 ZbO
 clear ZiD
 unfold Zco.M
 intro ZdO Zi0 ZiJ hlen1
 refine AWL.step ?_
 refine AWP.seq ?_
 refine ns ?_
 refine AWP.seq ?_
 refine nw ?_
 refine ZS Zi0 ZiJ (fun x17 ZCo ZCr ZEk ZGA => ?_) (fun ZCr => ?_)
 ·subst ZCr
  refine nw ?_
  refine AWP.seq ?_
  refine AWP.block ?_
  refine AWP.seq ?_
  refine ns ?_
  refine And.intro (Ztf ZEk) ?_
  refine st ?_
  refine sr (Zau (f := Ze.cells) (Ze.cells_eq x17) ZEk) ?_
  refine st ?_
  obtain ⟨r22, ZDT, hF⟩ := bind_some hF
  obtain ⟨ZIn, hF⟩ := Zy hF
  refine nn ?_
  refine Or.inl (Or.inl (Exists.intro 8 (Exists.intro [[], [], [], [], [], [], [], []] (Exists.intro [([12, 13, 14, 15, 16, 17, 18, 19], [], []), ([12, 13, 14, 15, 16, 17, 18, 19], [], []), ([12, 14, 15, 16, 17, 18, 19], [], []), ([12, 13, 14, 15, 16, 17, 18, 19], [], []), ([12, 13, 14, 16, 17, 18, 19], [], []), ([12, 13, 14, 17, 18, 19], [], []), ([12, 18, 19], [], []), ([12, 19], [], [])] (Exists.intro [12, 13, 14, 15, 16, 17, 18, 19] (And.intro (by decide +kernel) ?_))))))
  refine dp ?_
  refine dp ?_
  refine dp ?_
  refine dp ?_
  refine dp ?_
  (refine st ?_; apply Exists.intro; apply Exists.intro; apply And.intro; (focus ((conv => whnf); refine Exists.intro [] ?_; (conv => whnf); refine And.intro rfl ?_; (conv => whnf); refine Zk.mono (Zk.weak (rn []) (ZpN x17.fType _ ZDT) rfl (WS.mk (Zd (Zt (lc (lc (lc (lc Zo))))) Zc) Zb)) ?_; rintro d b ⟨rfl, rfl⟩; exact And.intro rfl (And.intro rfl rfl))); apply And.intro; (focus exact rfl); (conv => whnf))
  refine dp ?_
  refine de (Zcm (f := Ze.cells) (Zea (Ze.cells_eq (Ze.mk x17.fName r22)) (lc (lc (lc (lc (lc Zo)))))) (Zaw (f := Ze.cells))) ?_
  refine sa (fun l => ZbW l (fun x => Ze.cells_len x)) ZIn ?_
  refine Exists.intro _ (And.intro (WE.refl _) ?_)
  rw [← List.map_append]
  refine st ?_
  refine ns ?_
  refine AWL.weak (rn [(20, 3)]) ?_ (Zoc (Zi4 ++ ([(Ze.mk x17.fName r22)])) l (x_8 + 1) ZCo _ hF (ZdO ++ [x17]) (by rw [Zi0]; simp) (by rw [ZiJ]; simp) hlen1)
  exact (WS.mk (Zd (Zay rfl (WE.refl _)) (Zd (Zs (ZaH (by first | exact rfl | simp only [List.length_set]))) (tc (Zd (Zs (Zdd (ZZ hlen1 ZGA))) Zc)))) (Zf rfl (cc Zh) Zb))
 ·subst ZCr
  refine nw ?_
  refine AWP.seq ?_
  refine ns ?_
  obtain rfl := Zg hF
  refine ns ?_
  refine Exists.intro [(1000, 1000)] ?_
  refine st ?_
  exact Exists.intro (rn [(3, 0)]) (WS.mk (Zd (Zay rfl (WE.refl _)) Zc) (Zf rfl (cc Zh) Zb))

def Zb9 (l : (List Ze)) : Option ((List Ze)) :=
 Zco ([]) l 0 l
def Zb9.M (l : (List Ze)) (r : (List Ze)) : Prop :=
 Zk Tryz.prog 33 [.c none (.rs 1000 l.length)] [(1000, [(none, .ob 90 (l.map Ze.cells))])] (fun d b => d = .c (some (0, 45)) (.sl (r.map Ze.cells)) ∧ b = [(1000, [(none, .ob 90 (l.map Ze.cells))])])
theorem Zq0 (l : (List Ze)) (r : (List Ze)) (hF : Zb9 l = some r) : Zb9.M l r := by
 unfold Zb9 at hF
 unfold Zb9.M
 refine en Tryz.func33 ?_
 refine AWP.seq ?_
 refine ns ?_
 refine AWP.seq ?_
 refine ns ?_
 refine AWP.seq ?_
 refine AWP.seq ?_
 refine ns ?_
 intro hlen1
 (try rw [List.length_map] at hlen1)
 (try rw [List.length_map])
 refine st ?_
 refine AWP.block ?_
 refine AWP.loop ?_
 refine AWL.weak (rn []) ?_ (Zn0 ([]) l 0 l _ hF ([]) rfl rfl hlen1)
 exact (WS.mk (Zd ZkZ (Zd (Zs (ZaH (by first | exact rfl | simp only [List.length_set]))) (tc (tc Zc)))) (Zf rfl (cc Zh) Zb))

def Zc9 (pairs : (List Zn)) (i_5 : Int) (Zbb : (List Zn)) : Option ((List Ze) × Int) :=
 if (decide (i_5 ≥ 0)) = true then
 (ixI pairs i_5) >>= fun x91 =>
 Zdp x91.e0 >>= fun r92 =>
 (if (!r92) = true then some true else (ixI pairs i_5) >>= fun x93 =>
 Zdp x93.e1 >>= fun r94 =>
 some (!r94)) >>= fun c95 =>
 if c95 = true then
 some (([] : List Ze), 1)
 else
 (ixI pairs i_5) >>= fun x98 =>
 ZK ((Zbb.length + ([x98]).length) * 144 ≤ 140737488355328) >>= fun _ =>
 Zc9 pairs (IntKind.i64.wrap (i_5 - 1)) (Zbb ++ ([x98]))
 else
 Zcp (Zr.mk ([] : List Ze) ([] : List (ByteArray × Int))) Zbb >>= fun Zpc =>
 Zb9 Zpc.2.1.flist >>= fun Zuf =>
 some (Zuf, Zpc.1)
 partial_fixpoint
def Zc9.M (pairs : (List Zn)) (i_5 : Int) (Zbb : (List Zn)) (r : (List Ze) × Int) : Prop :=
 pairs.length ≤ maxLen → AWL Tryz.prog 50 (Code.sub (Zq Tryz.f15) [1, 1, 0, 1, 0, 0]) (Code.cont Tryz.prog 50 (Zq Tryz.f15) [1, 1, 0, 1, 0] (ZbS tab Tryz.f15.results (ZbX (.tup [.c (.sl (r.1.map Ze.cells)), .c (.v (.int .i64 r.2))]) []))) ⟨[(0, .c none (.sl (pairs.map Zn.cells))), (4, .c none (.rs 6004 Zbb.length)), (5, .c none (.v (.int .i64 i_5)))], [(6004, [(none, .ob 76 (Zbb.map Zn.cells))])]⟩
theorem ZpJ (pairs : (List Zn)) (i_5 : Int) (Zbb : (List Zn)) : ∀ r, Zc9 pairs i_5 Zbb = some r → Zc9.M pairs i_5 Zbb r := by
 refine Zc9.partial_correctness pairs (fun i_5 Zbb r => Zc9.M pairs i_5 Zbb r) ?_ i_5 Zbb
 intro unify_All_l1' ZjX i_5 Zbb r hF
 have ZpC := fun (_pairs : (List Zn)) (i_5 : Int) (Zbb : (List Zn)) => ZjX i_5 Zbb
 clear ZjX
 unfold Zc9.M
 intro hlen50
 refine AWL.step ?_
 refine AWP.seq ?_
 refine AWP.seq ?_
 refine ns ?_
 refine nw ?_
 refine Zj hF (fun Zz1 hF => ?_) (fun Zz1 hF => ?_)
 ·refine nw ?_
  refine AWP.seq ?_
  refine AWP.block ?_
  refine AWP.seq ?_
  refine AWP.seq ?_
  obtain ⟨x91, hx910, ZGp, hF⟩ := Zej hF
  obtain ⟨r92, Zyp, hF⟩ := bind_some hF
  obtain ⟨c95, ZrS, hF⟩ := bind_some hF
  refine AWP.cutN (fun T => ∃ r, WS r T ⟨[(0, .c none (.sl (pairs.map Zn.cells))), (4, .c none (.rs 6004 Zbb.length)), (5, .c none (.v (.int .i64 i_5))), (30, .c none (.v (.bool c95)))], [(6004, [(none, .ob 76 (Zbb.map Zn.cells))])]⟩) ?_ (fun T hw => ?_)
  ·refine nn ?_
   refine sr (Zdx (f := Zn.cells) (Zn.cells_eq x91) ZGp) ?_
   refine st ?_
   refine e3 ?_
   refine st ?_
   refine cm (Zk.weak (rn []) (Zk7 x91.e0 _ Zyp) rfl (WS.mk (Zd (Zt (lc (lc (lc (lc Zo))))) Zc) Zb)) ?_
   refine st ?_
   refine Zl false (fun Zu2 => ?_) (fun Zu2 => ?_)
   ·have ZrS := ift Zu2 ZrS
    (conv => whnf)
    obtain rfl := Zg ZrS
    refine st ?_
    exact wx (WS.mk (tc (Zd (Zs (ZaH (by first | exact rfl | simp only [List.length_set]))) (tc (Zd (Zs (web Zu2)) Zc)))) (Zf rfl (cc Zh) Zb))
   ·have ZrS := ife Zu2 ZrS
    obtain ⟨x93, hx930, ZIc, ZrS⟩ := Zej ZrS
    obtain ⟨r94, ZG0, ZrS⟩ := bind_some ZrS
    (conv => whnf)
    refine sr (Zdx (f := Zn.cells) (Zn.cells_eq x93) ZIc) ?_
    refine st ?_
    refine e3 ?_
    refine st ?_
    refine cm (Zk.weak (rn []) (Zk7 x93.e1 _ ZG0) rfl (WS.mk (Zd (Zt (lc (lc (lc (lc Zo))))) Zc) Zb)) ?_
    refine st ?_
    obtain rfl := Zg ZrS
    refine st ?_
    exact wx (WS.mk (tc (Zd (Zs (ZaH (by first | exact rfl | simp only [List.length_set]))) (tc (Zd (Zs (web Zu2)) Zc)))) (Zf rfl (cc Zh) Zb))
  obtain ⟨r0, hw⟩ := hw
  (conv => whnf)
  refine AWP.weak r0 hw ?_
  refine nw ?_
  refine Zj hF (fun ZGD hF => ?_) (fun ZGD hF => ?_)
  ·refine AWP.seq ?_
   refine ns ?_
   obtain rfl := Zg hF
   refine ns ?_
   refine Exists.intro [] ?_
   refine st ?_
   exact wx (WS.mk (Zd (ZdE (Zc6 WE.nil (Zc6 (WE.refl _) ZdF))) Zc) Zb)
  ·refine nw ?_
   obtain ⟨x98, hx980, ZHL, hF⟩ := Zej hF
   obtain ⟨ZIk, hF⟩ := Zy hF
   refine nn ?_
   refine sr (Zdx (f := Zn.cells) (Zn.cells_eq x98) ZHL) ?_
   refine st ?_
   refine Exists.intro _ (And.intro (Zcm (f := Zn.cells) (Zea (Zn.cells_eq x98) (lc (lc (lc (lc (lc (lc (lc (lc Zo))))))))) (Zaw (f := Zn.cells))) ?_)
   refine sa (fun l => ZbW l (fun x => Zn.cells_len x)) ZIk ?_
   refine Exists.intro (([x98]).map Zn.cells) (Exists.intro ((Zbb ++ ([x98])).map Zn.cells) (Exists.intro (Zbb ++ ([x98])).length (And.intro (WE.refl _) (And.intro (Zv6 (by first | exact rfl | simp only [List.length_set])) (And.intro (ZvD (by first | exact rfl | simp only [List.length_set]) (by first | exact List.length_map _ | exact rfl)) ?_)))))
   refine st ?_
   refine ns ?_
   refine AWL.weak (rn []) ?_ (ZpC pairs (IntKind.i64.wrap (i_5 - 1)) (Zbb ++ ([x98])) _ hF hlen50)
   exact (WS.mk (tc (Zd (Zs (ZaH (by first | exact rfl | simp only [List.length_set]))) (tc Zc))) (Zf rfl (cc Zh) Zb))
 ·refine nw ?_
  refine AWP.seq ?_
  refine ns ?_
  refine AWP.thawB 40 0 6540 45 rfl rfl ?_
  refine AWP.force ?_
  (conv => whnf)
  refine AWP.seq ?_
  obtain ⟨Zpc, ZE3, hF⟩ := bind_some hF
  refine ns ?_
  refine Exists.intro [] (Exists.intro [(40, 1000), (6540, 7001), (38, 1002), (6004, 7003)] (Exists.intro [] ?_))
  refine st ?_
  refine cm (Zk.weak (rn []) (Zlk (Zr.mk ([] : List Ze) ([] : List (ByteArray × Int))) Zbb _ ZE3) rfl (WS.mk (tp (Zd (Zs (ZaH (by first | exact rfl | simp only [List.length_set]))) Zc)) (Zf rfl (Zew (ZaH (by first | exact rfl | simp only [List.length_set])) (cc Zh)) (Zf rfl (cc Zh) (Zf rfl (cc Zh) (Zf rfl (cc Zh) Zb)))))) ?_
  refine st ?_
  refine AWP.seq ?_
  obtain ⟨Zuf, ZFA, hF⟩ := bind_some hF
  refine ns ?_
  refine Exists.intro [] (Exists.intro [(6540, 1000)] (Exists.intro [] ?_))
  refine st ?_
  refine cm (Zk.weak (rn []) (Zq0 Zpc.2.1.flist _ ZFA) rfl (WS.mk (Zd (Zs (ZaH (by first | exact rfl | simp only [List.length_set]))) Zc) (Zf rfl (cc Zh) Zb))) ?_
  refine st ?_
  obtain rfl := Zg hF
  refine ns ?_
  refine Exists.intro [] ?_
  refine st ?_
  exact wx (WS.mk (Zd (ZdE (Zc6 (WE.refl _) (Zc6 (WE.refl _) ZdF))) Zc) Zb)

def ZgL (pairs : (List Zn)) : Option ((List Ze) × Int) :=
 Zc9 pairs (IntKind.i64.wrap (((pairs.length : Nat) : Int) - 1)) ([] : List Zn)
def ZgL.M (pairs : (List Zn)) (r : (List Ze) × Int) : Prop :=
 Zk Tryz.prog 15 [.c none (.sl (pairs.map Zn.cells))] [] (fun d b => d = .tup [.c (.sl (r.1.map Ze.cells)), .c (.v (.int .i64 r.2))] ∧ b = [])
theorem Ztd (pairs : (List Zn)) (r : (List Ze) × Int) (hF : ZgL pairs = some r) : ZgL.M pairs r := by
 unfold ZgL at hF
 unfold ZgL.M
 refine en Tryz.func15 ?_
 refine AWP.seq ?_
 refine ns ?_
 refine AWP.seq ?_
 refine ns ?_
 refine AWP.thaw 4 6004 38 rfl ?_
 refine AWP.force ?_
 (conv => whnf)
 refine AWP.seq ?_
 refine AWP.seq ?_
 refine ns ?_
 intro hlen50
 (try rw [List.length_map] at hlen50)
 (try rw [List.length_map])
 refine st ?_
 refine AWP.block ?_
 refine AWP.loop ?_
 refine AWL.weak (rn []) ?_ (ZpJ pairs (IntKind.i64.wrap (((pairs.length : Nat) : Int) - 1)) ([] : List Zn) _ hF hlen50)
 exact (WS.mk (tc (Zd (Zs (ZaH (by first | exact rfl | simp only [List.length_set]))) (tc Zc))) (Zf rfl (cc Zh) Zb))

def Zbw (a : Za) (b : Za) : Option ((List Ze) × Int) :=
 ZgL ([(Zn.mk a b)]) >>= fun r1 =>
 some (r1.1, r1.2)
def Zbw.M (a : Za) (b : Za) (r : (List Ze) × Int) : Prop :=
 Zk Tryz.prog 12 [.agg [.v (.int .i64 a.fOp), .v (.string a.fName), .sl (a.fBound.fArgs.map Zi.cells), .sl (a.fKids.map Za.cells)], .agg [.v (.int .i64 b.fOp), .v (.string b.fName), .sl (b.fBound.fArgs.map Zi.cells), .sl (b.fKids.map Za.cells)]] [] (fun d b => d = .tup [.c (.sl (r.1.map Ze.cells)), .c (.v (.int .i64 r.2))] ∧ b = [])
theorem Zhe (a : Za) (b : Za) (r : (List Ze) × Int) (hF : Zbw a b = some r) : Zbw.M a b r := by
 unfold Zbw at hF
 unfold Zbw.M
 refine en Tryz.func12 ?_
 refine AWP.seq ?_
 refine ns ?_
 refine AWP.seq ?_
 obtain ⟨r1, hr1, hF⟩ := bind_some hF
 refine ns ?_
 refine Exists.intro _ (And.intro (Zcm (f := Zn.cells) (Zea (Zn.cells_eq (Zn.mk a b)) (lc (lc (lc (lc (lc (lc (lc (lc Zo))))))))) (Zaw (f := Zn.cells))) ?_)
 refine st ?_
 refine Exists.intro [9] (Exists.intro [] (Exists.intro [] ?_))
 refine st ?_
 refine cm (Zk.weak (rn []) (Ztd ([(Zn.mk a b)]) _ hr1) rfl (WS.mk (tc Zc) Zb)) ?_
 refine st ?_
 obtain rfl := Zg hF
 refine ns ?_
 refine Exists.intro [] ?_
 refine st ?_
 exact wx (WS.mk (Zd (ZdE (Zc6 (WE.refl _) (Zc6 (WE.refl _) ZdF))) Zc) Zb)

mutual
def Zal (a : Zi) (b : Zi) : Option (Bool) :=
 if (((a.fArgs.length : Nat) : Int) != ((b.fArgs.length : Nat) : Int)) = true then
 some false
 else
 ZaK 0 a b a.fArgs
 partial_fixpoint
def ZaK (i_5 : Nat) (a : Zi) (b : Zi) (Zce : (List Zi)) : Option (Bool) :=
 (match Zce with
 | x32 :: ZBX =>
 (b.fArgs[i_5]?) >>= fun x37 =>
 Zal x32 x37 >>= fun r38 =>
 if (!r38) = true then
 some false
 else
 ZaK (i_5 + 1) a b ZBX
 | [] =>
 some true)
 partial_fixpoint
end
def Zal.M (a : Zi) (b : Zi) (r : Bool) : Prop :=
 Zk Tryz.prog 65 [.agg [.sl (a.fArgs.map Zi.cells)], .agg [.sl (b.fArgs.map Zi.cells)]] [] (fun d b => d = .c none (.v (.bool r)) ∧ b = [])
def ZaK.M (i_5 : Nat) (a : Zi) (b : Zi) (Zce : (List Zi)) (r : Bool) : Prop :=
 ∀ Zen : List Zi, a.fArgs = Zen ++ Zce → i_5 = Zen.length → a.fArgs.length ≤ maxLen → b.fArgs.length ≤ maxLen → AWL Tryz.prog 32 (Code.sub (Zq Tryz.f65) [1, 1, 0, 1, 0, 0]) (Code.cont Tryz.prog 32 (Zq Tryz.f65) [1, 1, 0, 1, 0] (ZbS tab Tryz.f65.results (ZbX (.c none (.v (.bool r))) []))) ⟨[(2, .ptr 2 0), (3, .ptr 3 0), (5, .c none (.v (.int .i64 ((i_5 : Nat) : Int))))], [(2, [(none, .sl (a.fArgs.map Zi.cells))]), (3, [(none, .sl (b.fArgs.map Zi.cells))])]⟩
theorem ZjY : (∀ (a : Zi) (b : Zi), ∀ r, Zal a b = some r → Zal.M a b r) ∧ (∀ (i_5 : Nat) (a : Zi) (b : Zi) (Zce : (List Zi)), ∀ r, ZaK i_5 a b Zce = some r → ZaK.M i_5 a b Zce r) := by
 refine Zal.mutual_partial_correctness Zal.M ZaK.M ?_ ?_
 ·intro lazycref04_SameKind_l1' Zef a b r hF
  unfold Zal.M
  refine en Tryz.func65 ?_
  refine AWP.seq ?_
  refine ns ?_
  refine AWP.seq ?_
  refine AWP.seq ?_
  refine ns ?_
  intro hlen4
  (try rw [List.length_map] at hlen4)
  (try rw [List.length_map])
  refine st ?_
  intro hlen5
  (try rw [List.length_map] at hlen5)
  (try rw [List.length_map])
  refine st ?_
  refine nw ?_
  refine Zj hF (fun hc6 hF => ?_) (fun hc6 hF => ?_)
  ·refine AWP.seq ?_
   refine ns ?_
   obtain rfl := Zg hF
   refine ns ?_
   refine Exists.intro [] ?_
   refine st ?_
   exact wx (WS.mk (tc Zc) Zb)
  ·refine nw ?_
   refine AWP.seq ?_
   refine AWP.seq ?_
   refine ns ?_
   refine AWP.block ?_
   refine AWP.loop ?_
   refine AWL.weak (rn []) ?_ (Zef 0 a b a.fArgs _ hF ([]) rfl rfl hlen4 hlen5)
   exact (WS.mk (tp (tp (tc Zc))) (Zf rfl (cc Zh) (Zf rfl (cc Zh) Zb)))
 ·intro lazycref04_SameKind' lazycref04_SameKind_l1' ZkS Zef i_5 a b Zce r hF
  unfold ZaK.M
  intro Zen ZlP Zls hlen4 hlen5
  refine AWL.step ?_
  refine AWP.seq ?_
  refine AWP.seq ?_
  refine ns ?_
  intro hlen31
  (try rw [List.length_map] at hlen31)
  (try rw [List.length_map])
  refine st ?_
  refine nw ?_
  refine ZS ZlP Zls (fun x32 ZBX ZDE ZHB ZGX => ?_) (fun ZDE => ?_)
  ·subst ZDE
   refine nw ?_
   refine AWP.seq ?_
   refine AWP.block ?_
   refine AWP.seq ?_
   obtain ⟨x37, ZHF, hF⟩ := bind_some hF
   obtain ⟨r38, Zy5, hF⟩ := bind_some hF
   refine nn ?_
   refine Or.inl (Or.inl (Exists.intro 10 (Exists.intro [[], [], [], [], [], [], [], [], [], []] (Exists.intro [([20, 21, 22, 23, 24, 25, 26, 27, 28, 29], [], []), ([21, 22, 23, 24, 25, 26, 27, 28, 29], [], []), ([20, 21, 22, 23, 24, 25, 26, 27, 28, 29], [], []), ([23, 24, 25, 26, 27, 28, 29], [], []), ([24, 25, 26, 27, 28, 29], [], []), ([20, 21, 22, 23, 24, 25, 26, 27, 28, 29], [], []), ([20, 21, 22, 23, 24, 26, 27, 28, 29], [], []), ([20, 21, 22, 23, 24, 25, 26, 27, 28, 29], [], []), ([20, 21, 22, 23, 24, 28, 29], [], []), ([20, 21, 22, 23, 24, 29], [], [])] (Exists.intro [20, 21, 22, 23, 24, 25, 26, 27, 28, 29] (And.intro (by decide +kernel) ?_))))))
   refine dp ?_
   refine dp ?_
   refine dp ?_
   refine dr (Zau (Zi.cells_eq x32) ZHB) ?_
   refine dp ?_
   refine dp ?_
   refine dp ?_
   refine dp ?_
   refine dr (Zau (Zi.cells_eq x37) ZHF) ?_
   refine dp ?_
   refine st ?_
   refine e3 ?_
   refine st ?_
   refine cm (Zk.weak (rn []) (ZkS x32 x37 _ Zy5) rfl (WS.mk (Zd (Zt (lc Zo)) (Zd (Zt (lc Zo)) Zc)) Zb)) ?_
   refine st ?_
   refine nw ?_
   refine Zj hF (fun Zje hF => ?_) (fun Zje hF => ?_)
   ·refine AWP.seq ?_
    refine ns ?_
    obtain rfl := Zg hF
    refine ns ?_
    refine Exists.intro [] ?_
    refine st ?_
    exact wx (WS.mk (tc Zc) Zb)
   ·refine nw ?_
    refine ns ?_
    refine AWL.weak (rn []) ?_ (Zef (i_5 + 1) a b ZBX _ hF (Zen ++ [x32]) (by rw [ZlP]; simp) (by rw [Zls]; simp) hlen31 hlen5)
    exact (WS.mk (tp (tp (Zd (Zs (Zdd (ZZ hlen31 ZGX))) Zc))) (Zf rfl (cc Zh) (Zf rfl (cc Zh) Zb)))
  ·subst ZDE
   refine nw ?_
   refine AWP.seq ?_
   refine ns ?_
   obtain rfl := Zg hF
   refine ns ?_
   refine Exists.intro [] ?_
   refine st ?_
   exact wx (WS.mk (tc Zc) Zb)
theorem Zkk : ∀ (a : Zi) (b : Zi), ∀ r, Zal a b = some r → Zal.M a b r := ZjY.1

def Zbj (l : (List ByteArray)) (s : ByteArray) (i_5 : Int) : Option (Int) :=
 if (decide (i_5 ≥ 0)) = true then
 (ixI l i_5) >>= fun x12 =>
 if (x12.toList == s.toList) = true then
 some i_5
 else
 Zbj l s (IntKind.i64.wrap (i_5 - 1))
 else
 some (-1)
 partial_fixpoint
def Zbj.M (l : (List ByteArray)) (s : ByteArray) (i_5 : Int) (r : Int) : Prop :=
 l.length ≤ maxLen → AWL Tryz.prog 20 (Code.sub (Zq Tryz.f66) [1, 0, 1, 0, 0]) (Code.cont Tryz.prog 20 (Zq Tryz.f66) [1, 0, 1, 0] (ZbS tab Tryz.f66.results (ZbX (.c none (.v (.int .i64 r))) []))) ⟨[(0, .c none (.sl (l.map c_S))), (1, .c none (.v (.string s))), (5, .c none (.v (.int .i64 i_5)))], []⟩
theorem Zlm (l : (List ByteArray)) (s : ByteArray) (i_5 : Int) : ∀ r, Zbj l s i_5 = some r → Zbj.M l s i_5 r := by
 refine Zbj.partial_correctness l s (fun i_5 r => Zbj.M l s i_5 r) ?_ i_5
 intro lazycref04_last_l1' ZgR i_5 r hF
 have Zlg := fun (_l : (List ByteArray)) (_s : ByteArray) (i_5 : Int) => ZgR i_5
 clear ZgR
 unfold Zbj.M
 intro hlen1
 refine AWL.step ?_
 refine AWP.seq ?_
 refine AWP.seq ?_
 refine ns ?_
 refine nw ?_
 refine Zj hF (fun Zct hF => ?_) (fun Zct hF => ?_)
 ·refine nw ?_
  refine AWP.seq ?_
  refine AWP.block ?_
  refine AWP.seq ?_
  obtain ⟨x12, hx120, ZGt, hF⟩ := Zej hF
  refine nn ?_
  refine sr (Zdx (f := c_S) rfl ZGt) ?_
  refine st ?_
  refine nw ?_
  refine Zj hF (fun Zcx hF => ?_) (fun Zcx hF => ?_)
  ·refine AWP.seq ?_
   refine ns ?_
   obtain rfl := Zg hF
   refine ns ?_
   refine Exists.intro [] ?_
   refine st ?_
   exact wx (WS.mk (tc Zc) Zb)
  ·refine nw ?_
   refine ns ?_
   refine AWL.weak (rn []) ?_ (Zlg l s (IntKind.i64.wrap (i_5 - 1)) _ hF hlen1)
   exact (WS.mk (tc (tc (tc Zc))) Zb)
 ·refine nw ?_
  refine AWP.seq ?_
  refine ns ?_
  obtain rfl := Zg hF
  refine ns ?_
  refine Exists.intro [] ?_
  refine st ?_
  exact wx (WS.mk (tc Zc) Zb)

def Zb5 (l : (List ByteArray)) (s : ByteArray) : Option (Int) :=
 Zbj l s (IntKind.i64.wrap (((l.length : Nat) : Int) - 1))
def Zb5.M (l : (List ByteArray)) (s : ByteArray) (r : Int) : Prop :=
 Zk Tryz.prog 66 [.c none (.sl (l.map c_S)), .c none (.v (.string s))] [] (fun d b => d = .c none (.v (.int .i64 r)) ∧ b = [])
theorem ZiE (l : (List ByteArray)) (s : ByteArray) (r : Int) (hF : Zb5 l s = some r) : Zb5.M l s r := by
 unfold Zb5 at hF
 unfold Zb5.M
 refine en Tryz.func66 ?_
 refine AWP.seq ?_
 refine ns ?_
 refine AWP.seq ?_
 refine AWP.seq ?_
 refine ns ?_
 intro hlen1
 (try rw [List.length_map] at hlen1)
 (try rw [List.length_map])
 refine st ?_
 refine AWP.block ?_
 refine AWP.loop ?_
 refine AWL.weak (rn []) ?_ (Zlm l s (IntKind.i64.wrap (((l.length : Nat) : Int) - 1)) _ hF hlen1)
 exact (WS.mk (tc (tc (tc Zc))) Zb)

mutual
def ZaF (a : Za) (b : Za) (x : (List ByteArray)) (y : (List ByteArray)) : Option (Bool) :=
 (if ((a.fOp != b.fOp) || (((a.fKids.length : Nat) : Int) != ((b.fKids.length : Nat) : Int))) = true then some true else Zal a.fBound b.fBound >>= fun r8 =>
 some (!r8)) >>= fun c9 =>
 if c9 = true then
 some false
 else
 if (a.fOp == 1) = true then
 Zb5 x a.fName >>= fun r60 =>
 Zb5 y b.fName >>= fun r61 =>
 some ((r60 == r61) && ((decide (r60 ≥ 0)) || (a.fName.toList == b.fName.toList)))
 else
 if (a.fOp == 4) = true then
 ZK ((0 + x.length) * 16 ≤ 140737488355328) >>= fun _ =>
 ZK ((x.length + ([a.fName]).length) * 16 ≤ 140737488355328) >>= fun _ =>
 ZK ((0 + y.length) * 16 ≤ 140737488355328) >>= fun _ =>
 ZK ((y.length + ([b.fName]).length) * 16 ≤ 140737488355328) >>= fun _ =>
 ZbI (x ++ ([a.fName])) (y ++ ([b.fName])) a b
 else
 if (!(a.fName.toList == b.fName.toList)) = true then
 some false
 else
 ZbI x y a b
 partial_fixpoint
def ZbI (x_2 : (List ByteArray)) (y_3 : (List ByteArray)) (a : Za) (b : Za) : Option (Bool) :=
 Zbn x_2 y_3 0 a b a.fKids
 partial_fixpoint
def Zbn (x_2 : (List ByteArray)) (y_3 : (List ByteArray)) (ZhT : Nat) (a : Za) (b : Za) (Zdr : (List Za)) : Option (Bool) :=
 (match Zdr with
 | x49 :: ZCe =>
 (b.fKids[ZhT]?) >>= fun x54 =>
 ZaF x49 x54 x_2 y_3 >>= fun r55 =>
 if (!r55) = true then
 some false
 else
 Zbn x_2 y_3 (ZhT + 1) a b ZCe
 | [] =>
 some true)
 partial_fixpoint
end
def ZaF.M (a : Za) (b : Za) (x : (List ByteArray)) (y : (List ByteArray)) (r : Bool) : Prop :=
 Zk Tryz.prog 40 [.agg [.v (.int .i64 a.fOp), .v (.string a.fName), .sl (a.fBound.fArgs.map Zi.cells), .sl (a.fKids.map Za.cells)], .agg [.v (.int .i64 b.fOp), .v (.string b.fName), .sl (b.fBound.fArgs.map Zi.cells), .sl (b.fKids.map Za.cells)], .c none (.sl (x.map c_S)), .c none (.sl (y.map c_S))] [] (fun d b => d = .c none (.v (.bool r)) ∧ b = [])
def ZbI.M (x_2 : (List ByteArray)) (y_3 : (List ByteArray)) (a : Za) (b : Za) (r : Bool) : Prop :=
 AWP Tryz.prog 108 (Code.sub (Zq Tryz.f40) [1, 1, 1]) (Code.cont Tryz.prog 108 (Zq Tryz.f40) [1, 1, 1] (ZbS tab Tryz.f40.results (ZbX (.c none (.v (.bool r))) []))) ⟨[(2, .c none (.sl (x_2.map c_S))), (3, .c none (.sl (y_3.map c_S))), (4, .ptr 4 0), (5, .ptr 5 0)], [(4, [(none, .v (.int .i64 a.fOp)), (none, .v (.string a.fName)), (none, .sl (a.fBound.fArgs.map Zi.cells)), (none, .sl (a.fKids.map Za.cells))]), (5, [(none, .v (.int .i64 b.fOp)), (none, .v (.string b.fName)), (none, .sl (b.fBound.fArgs.map Zi.cells)), (none, .sl (b.fKids.map Za.cells))])]⟩
def Zbn.M (x_2 : (List ByteArray)) (y_3 : (List ByteArray)) (ZhT : Nat) (a : Za) (b : Za) (Zdr : (List Za)) (r : Bool) : Prop :=
 ∀ ZgV : List Za, a.fKids = ZgV ++ Zdr → ZhT = ZgV.length → AWL Tryz.prog 108 (Code.sub (Zq Tryz.f40) [1, 1, 1, 0, 1, 0, 0]) (Code.cont Tryz.prog 108 (Zq Tryz.f40) [1, 1, 1, 0, 1, 0] (ZbS tab Tryz.f40.results (ZbX (.c none (.v (.bool r))) []))) ⟨[(2, .c none (.sl (x_2.map c_S))), (3, .c none (.sl (y_3.map c_S))), (4, .ptr 4 0), (5, .ptr 5 0), (13, .c none (.v (.int .i64 ((ZhT : Nat) : Int))))], [(4, [(none, .v (.int .i64 a.fOp)), (none, .v (.string a.fName)), (none, .sl (a.fBound.fArgs.map Zi.cells)), (none, .sl (a.fKids.map Za.cells))]), (5, [(none, .v (.int .i64 b.fOp)), (none, .v (.string b.fName)), (none, .sl (b.fBound.fArgs.map Zi.cells)), (none, .sl (b.fKids.map Za.cells))])]⟩
theorem Zl9 : (∀ (a : Za) (b : Za) (x : (List ByteArray)) (y : (List ByteArray)), ∀ r, ZaF a b x y = some r → ZaF.M a b x y r) ∧ (∀ (x_2 : (List ByteArray)) (y_3 : (List ByteArray)) (a : Za) (b : Za), ∀ r, ZbI x_2 y_3 a b = some r → ZbI.M x_2 y_3 a b r) ∧ (∀ (x_2 : (List ByteArray)) (y_3 : (List ByteArray)) (ZhT : Nat) (a : Za) (b : Za) (Zdr : (List Za)), ∀ r, Zbn x_2 y_3 ZhT a b Zdr = some r → Zbn.M x_2 y_3 ZhT a b Zdr r) := by
 refine ZaF.mutual_partial_correctness ZaF.M ZbI.M Zbn.M ?_ ?_ ?_
 ·intro lazycref04_Alike_k1' Zg7 a b x y r hF
  unfold ZaF.M
  refine en Tryz.func40 ?_
  refine AWP.seq ?_
  refine ns ?_
  refine AWP.seq ?_
  refine AWP.seq ?_
  obtain ⟨c9, hc9, hF⟩ := bind_some hF
  refine AWP.cutN (fun T => ∃ r, WS r T ⟨[(2, .c none (.sl (x.map c_S))), (3, .c none (.sl (y.map c_S))), (4, .ptr 4 0), (5, .ptr 5 0), (35, .c none (.v (.bool c9)))], [(4, [(none, .v (.int .i64 a.fOp)), (none, .v (.string a.fName)), (none, .sl (a.fBound.fArgs.map Zi.cells)), (none, .sl (a.fKids.map Za.cells))]), (5, [(none, .v (.int .i64 b.fOp)), (none, .v (.string b.fName)), (none, .sl (b.fBound.fArgs.map Zi.cells)), (none, .sl (b.fKids.map Za.cells))])]⟩) ?_ (fun T hw => ?_)
  ·refine ns ?_
   refine Zl false (fun ZeC => ?_) (fun ZeC => ?_)
   ·(conv => whnf)
    have hc9 := ift ZeC hc9
    obtain rfl := Zg hc9
    refine st ?_
    exact wx (WS.mk (tc (tc (tp (tp (Zd (Zs (web ZeC)) Zc))))) (Zf rfl (cc (cc (cc (cc Zh)))) (Zf rfl (cc (cc (cc (cc Zh)))) Zb)))
   ·(conv => whnf)
    refine st ?_
    intro hlen6
    (try rw [List.length_map] at hlen6)
    (try rw [List.length_map])
    refine st ?_
    intro hlen7
    (try rw [List.length_map] at hlen7)
    (try rw [List.length_map])
    refine st ?_
    refine Zl false (fun Zct => ?_) (fun Zct => ?_)
    ·have hc9 := ift (And.intro ZeC Zct) hc9
     (conv => whnf)
     obtain rfl := Zg hc9
     refine st ?_
     exact wx (WS.mk (tc (tc (tp (tp (Zd (Zs (web (And.intro ZeC Zct))) Zc))))) (Zf rfl (cc (cc (cc (cc Zh)))) (Zf rfl (cc (cc (cc (cc Zh)))) Zb)))
    ·have hc9 := ife (And.intro ZeC Zct) hc9
     obtain ⟨r8, hr8, hc9⟩ := bind_some hc9
     (conv => whnf)
     refine st ?_
     refine e3 ?_
     refine st ?_
     refine cm (Zk.weak (rn []) (Zkk a.fBound b.fBound _ hr8) rfl (WS.mk (Zd (Zt (lc Zo)) (Zd (Zt (lc Zo)) Zc)) Zb)) ?_
     refine st ?_
     obtain rfl := Zg hc9
     refine st ?_
     exact wx (WS.mk (tc (tc (tp (tp (Zd (Zs (web (And.intro ZeC Zct))) Zc))))) (Zf rfl (cc (cc (cc (cc Zh)))) (Zf rfl (cc (cc (cc (cc Zh)))) Zb)))
  obtain ⟨r0, hw⟩ := hw
  (conv => whnf)
  refine AWP.weak r0 hw ?_
  refine nw ?_
  refine Zj hF (fun Zd9 hF => ?_) (fun Zd9 hF => ?_)
  ·refine AWP.seq ?_
   refine ns ?_
   obtain rfl := Zg hF
   refine ns ?_
   refine Exists.intro [] ?_
   refine st ?_
   exact wx (WS.mk (tc Zc) Zb)
  ·refine nw ?_
   refine AWP.seq ?_
   refine AWP.seq ?_
   refine ns ?_
   refine AWP.block ?_
   refine AWP.seq ?_
   refine ns ?_
   refine nw ?_
   refine Zj hF (fun Zia hF => ?_) (fun Zia hF => ?_)
   ·refine AWP.seq ?_
    obtain ⟨r60, ZD9, hF⟩ := bind_some hF
    obtain ⟨r61, ZAt, hF⟩ := bind_some hF
    refine nn ?_
    refine Or.inl (Or.inr (Exists.intro [0, 4, 5, 6] (Exists.intro [[45, 49, 50, 51], [45, 49, 50, 51], [45, 49, 50, 51], [45, 49, 51]] (Exists.intro [5] (Exists.intro [2, 3, 5, 45, 49, 50, 51] (Exists.intro [45, 49, 50, 51] (Exists.intro [1, 2, 3, 7, 8, 9] (And.intro (by decide +kernel) ?_))))))))
    refine dp ?_
    refine dp ?_
    refine dp ?_
    refine dp ?_
    refine st ?_
    refine e3 ?_
    refine st ?_
    refine cm (Zk.weak (rn []) (ZiE x a.fName _ ZD9) rfl (WS.mk (tc (tc Zc)) Zb)) ?_
    refine st ?_
    refine e3 ?_
    refine st ?_
    refine cm (Zk.weak (rn []) (ZiE y b.fName _ ZAt) rfl (WS.mk (tc (tc Zc)) Zb)) ?_
    refine st ?_
    refine AWP.seq ?_
    refine AWP.cutN (fun T => ∃ r, WS r T ⟨[(8, .c none (.v (.bool ((r60 == r61) && ((decide (r60 ≥ 0)) || (a.fName.toList == b.fName.toList))))))], []⟩) ?_ (fun T hw => ?_)
    ·refine ns ?_
     refine Zl true (fun Zt7 => ?_) (fun Zt7 => ?_)
     ·(conv => whnf)
      refine st ?_
      refine Zl false (fun Zob => ?_) (fun Zob => ?_)
      ·(conv => whnf)
       refine st ?_
       exact wx (WS.mk (Zd (Zs (web (And.intro Zt7 Zob))) Zc) Zb)
      ·(conv => whnf)
       refine st ?_
       exact wx (WS.mk (Zd (Zs (web (And.intro Zt7 Zob))) Zc) Zb)
     ·(conv => whnf)
      refine st ?_
      exact wx (WS.mk (Zd (Zs (web Zt7)) Zc) Zb)
    obtain ⟨r0, hw⟩ := hw
    (conv => whnf)
    refine AWP.weak r0 hw ?_
    obtain rfl := Zg hF
    refine ns ?_
    refine Exists.intro [] ?_
    refine st ?_
    exact wx (WS.mk (tc Zc) Zb)
   ·refine AWP.seq ?_
    refine ns ?_
    refine nw ?_
    refine Zj hF (fun Zqp hF => ?_) (fun Zqp hF => ?_)
    ·refine AWP.seq ?_
     refine ns ?_
     refine AWP.seq ?_
     obtain ⟨ZHS, hF⟩ := Zy hF
     refine nn ?_
     refine sa (fun l => ZbW l (fun x => Zfg x)) ZHS ?_
     refine Exists.intro _ (And.intro (WE.refl _) ?_)
     (try rw [List.nil_append])
     refine st ?_
     refine AWP.seq ?_
     obtain ⟨ZGN, hF⟩ := Zy hF
     refine ns ?_
     refine Exists.intro _ (And.intro (Zcm (f := c_S) (lc Zo) (Zaw (f := c_S))) ?_)
     refine sa (fun l => ZbW l (fun x => Zfg x)) ZGN ?_
     refine Exists.intro _ (And.intro (WE.refl _) ?_)
     rw [← List.map_append]
     refine st ?_
     refine AWP.seq ?_
     obtain ⟨ZHe, hF⟩ := Zy hF
     refine nn ?_
     refine sa (fun l => ZbW l (fun x => Zfg x)) ZHe ?_
     refine Exists.intro _ (And.intro (WE.refl _) ?_)
     (try rw [List.nil_append])
     refine st ?_
     refine AWP.seq ?_
     obtain ⟨ZHu, hF⟩ := Zy hF
     refine ns ?_
     refine Exists.intro _ (And.intro (Zcm (f := c_S) (lc Zo) (Zaw (f := c_S))) ?_)
     refine sa (fun l => ZbW l (fun x => Zfg x)) ZHu ?_
     refine Exists.intro _ (And.intro (WE.refl _) ?_)
     rw [← List.map_append]
     refine st ?_
     refine AWP.seq ?_
     refine ns ?_
     refine ns ?_
     refine AWP.weak (rn []) ?_ (Zg7 (x ++ ([a.fName])) (y ++ ([b.fName])) a b _ hF)
     exact (WS.mk (tc (tc (tp (tp Zc)))) (Zf rfl (cc (cc (cc (cc Zh)))) (Zf rfl (cc (cc (cc (cc Zh)))) Zb)))
    ·refine AWP.seq ?_
     refine ns ?_
     refine nw ?_
     refine Zj hF (fun ZCB hF => ?_) (fun ZCB hF => ?_)
     ·refine AWP.seq ?_
      refine ns ?_
      obtain rfl := Zg hF
      refine ns ?_
      refine Exists.intro [] ?_
      refine st ?_
      exact wx (WS.mk (tc Zc) Zb)
     ·refine nw ?_
      refine AWP.weak (rn []) ?_ (Zg7 x y a b _ hF)
      exact (WS.mk (tc (tc (tp (tp Zc)))) (Zf rfl (cc (cc (cc (cc Zh)))) (Zf rfl (cc (cc (cc (cc Zh)))) Zb)))
 ·intro lazycref04_Alike_l2' ZeP x_2 y_3 a b r hF
  unfold ZbI.M
  refine AWP.seq ?_
  refine AWP.seq ?_
  refine ns ?_
  refine AWP.block ?_
  refine AWP.loop ?_
  refine AWL.weak (rn []) ?_ (ZeP x_2 y_3 0 a b a.fKids _ hF ([]) rfl rfl)
  exact (WS.mk (tc (tc (tp (tp (tc Zc))))) (Zf rfl (cc (cc (cc (cc Zh)))) (Zf rfl (cc (cc (cc (cc Zh)))) Zb)))
 ·intro lazycref04_Alike' lazycref04_Alike_l2' ZmH ZeP x_2 y_3 ZhT a b Zdr r hF
  unfold Zbn.M
  intro ZgV Zon ZnX
  refine AWL.step ?_
  refine AWP.seq ?_
  refine AWP.seq ?_
  refine ns ?_
  intro hlen48
  (try rw [List.length_map] at hlen48)
  (try rw [List.length_map])
  refine st ?_
  refine nw ?_
  refine ZS Zon ZnX (fun x49 ZCe ZCN ZHg ZHG => ?_) (fun ZCN => ?_)
  ·subst ZCN
   refine nw ?_
   refine AWP.seq ?_
   refine AWP.block ?_
   refine AWP.seq ?_
   obtain ⟨x54, ZGE, hF⟩ := bind_some hF
   obtain ⟨r55, ZHK, hF⟩ := bind_some hF
   refine nn ?_
   refine Or.inl (Or.inl (Exists.intro 12 (Exists.intro [[], [], [], [], [], [], [], [], [], [], [], []] (Exists.intro [([94, 95, 96, 97, 98, 99, 100, 101, 102, 103, 104, 105], [], []), ([95, 96, 97, 98, 99, 100, 101, 102, 103, 104, 105], [], []), ([94, 95, 96, 97, 98, 99, 100, 101, 102, 103, 104, 105], [], []), ([97, 98, 99, 100, 101, 102, 103, 104, 105], [], []), ([98, 99, 100, 101, 102, 103, 104, 105], [], []), ([94, 95, 96, 97, 98, 99, 100, 101, 102, 103, 104, 105], [], []), ([94, 95, 96, 97, 98, 100, 101, 102, 103, 104, 105], [], []), ([94, 95, 96, 97, 98, 99, 100, 101, 102, 103, 104, 105], [], []), ([94, 95, 96, 97, 98, 102, 103, 104, 105], [], []), ([94, 95, 96, 97, 98, 103, 104, 105], [], []), ([94, 95, 96, 97, 98, 99, 100, 101, 102, 103, 104, 105], [], []), ([94, 95, 96, 97, 98, 99, 100, 101, 102, 103, 104, 105], [], [])] (Exists.intro [94, 95, 96, 97, 98, 99, 100, 101, 102, 103, 104, 105] (And.intro (by decide +kernel) ?_))))))
   refine dp ?_
   refine dp ?_
   refine dp ?_
   refine dr (Zau (Za.cells_eq x49) ZHg) ?_
   refine dp ?_
   refine dp ?_
   refine dp ?_
   refine dp ?_
   refine dr (Zau (Za.cells_eq x54) ZGE) ?_
   refine dp ?_
   refine dp ?_
   refine dp ?_
   refine st ?_
   refine e3 ?_
   refine st ?_
   refine cm (Zk.weak (rn []) (ZmH x49 x54 x_2 y_3 _ ZHK) rfl (WS.mk (Zd (Zt (lc (lc (lc (lc Zo))))) (Zd (Zt (lc (lc (lc (lc Zo))))) (tc (tc Zc)))) Zb)) ?_
   refine st ?_
   refine nw ?_
   refine Zj hF (fun Zhm hF => ?_) (fun Zhm hF => ?_)
   ·refine AWP.seq ?_
    refine ns ?_
    obtain rfl := Zg hF
    refine ns ?_
    refine Exists.intro [] ?_
    refine st ?_
    exact wx (WS.mk (tc Zc) Zb)
   ·refine nw ?_
    refine ns ?_
    refine AWL.weak (rn []) ?_ (ZeP x_2 y_3 (ZhT + 1) a b ZCe _ hF (ZgV ++ [x49]) (by rw [Zon]; simp) (by rw [ZnX]; simp))
    exact (WS.mk (tc (tc (tp (tp (Zd (Zs (Zdd (ZZ hlen48 ZHG))) Zc))))) (Zf rfl (cc (cc (cc (cc Zh)))) (Zf rfl (cc (cc (cc (cc Zh)))) Zb)))
  ·subst ZCN
   refine nw ?_
   refine AWP.seq ?_
   refine ns ?_
   obtain rfl := Zg hF
   refine ns ?_
   refine Exists.intro [] ?_
   refine st ?_
   exact wx (WS.mk (tc Zc) Zb)
theorem ZmG : ∀ (a : Za) (b : Za) (x : (List ByteArray)) (y : (List ByteArray)), ∀ r, ZaF a b x y = some r → ZaF.M a b x y r := Zl9.1

def ZcD (a : Za) (b : Za) : Option (Bool) :=
 Zag a >>= fun r1 =>
 (if (r1 == 0) = true then Zag b >>= fun r2 =>
 some (r2 == 0) else some false) >>= fun c3 =>
 (if c3 = true then ZaF a b ([] : List ByteArray) ([] : List ByteArray) >>= fun r4 =>
 some r4 else some false) >>= fun c5 =>
 some c5
def ZcD.M (a : Za) (b : Za) (r : Bool) : Prop :=
 Zk Tryz.prog 18 [.agg [.v (.int .i64 a.fOp), .v (.string a.fName), .sl (a.fBound.fArgs.map Zi.cells), .sl (a.fKids.map Za.cells)], .agg [.v (.int .i64 b.fOp), .v (.string b.fName), .sl (b.fBound.fArgs.map Zi.cells), .sl (b.fKids.map Za.cells)]] [] (fun d b => d = .c none (.v (.bool r)) ∧ b = [])
theorem ZfU (a : Za) (b : Za) (r : Bool) (hF : ZcD a b = some r) : ZcD.M a b r := by
 unfold ZcD at hF
 unfold ZcD.M
 refine en Tryz.func18 ?_
 refine AWP.seq ?_
 refine ns ?_
 refine AWP.seq ?_
 obtain ⟨r1, hr1, hF⟩ := bind_some hF
 obtain ⟨c3, hc3, hF⟩ := bind_some hF
 obtain ⟨c5, hc5, hF⟩ := bind_some hF
 refine AWP.cutN (fun T => ∃ r, WS r T ⟨[(4, .c none (.v (.bool c5)))], []⟩) ?_ (fun T hw => ?_)
 ·refine ns ?_
  refine e3 ?_
  refine st ?_
  refine cm (Zk.weak (rn []) (ZdH a _ hr1) rfl (WS.mk (Zd (Zt (lc (lc (lc (lc Zo))))) Zc) Zb)) ?_
  refine st ?_
  refine Zl true (fun hc6 => ?_) (fun hc6 => ?_)
  ·have hc3 := ift hc6 hc3
   obtain ⟨r2, hr2, hc3⟩ := bind_some hc3
   (conv => whnf)
   refine st ?_
   refine e3 ?_
   refine st ?_
   refine cm (Zk.weak (rn []) (ZdH b _ hr2) rfl (WS.mk (Zd (Zt (lc (lc (lc (lc Zo))))) Zc) Zb)) ?_
   refine st ?_
   obtain rfl := Zg hc3
   refine st ?_
   refine Zl true (fun hc7 => ?_) (fun hc7 => ?_)
   ·have hc5 := ift (And.intro hc6 hc7) hc5
    obtain ⟨r4, hr4, hc5⟩ := bind_some hc5
    (conv => whnf)
    refine st ?_
    refine e3 ?_
    refine st ?_
    refine cm (Zk.weak (rn []) (ZmG a b ([] : List ByteArray) ([] : List ByteArray) _ hr4) rfl (WS.mk (Zd (Zt (lc (lc (lc (lc Zo))))) (Zd (Zt (lc (lc (lc (lc Zo))))) (Zd (Zs WE.nil) (Zd (Zs WE.nil) Zc)))) Zb)) ?_
    refine st ?_
    obtain rfl := Zg hc5
    refine st ?_
    exact wx (WS.mk (Zd (Zs (web (And.intro hc6 hc7))) Zc) Zb)
   ·have hc5 := ife (And.intro hc6 hc7) hc5
    (conv => whnf)
    obtain rfl := Zg hc5
    refine st ?_
    exact wx (WS.mk (Zd (Zs (web (And.intro hc6 hc7))) Zc) Zb)
  ·have hc3 := ife hc6 hc3
   (conv => whnf)
   obtain rfl := Zg hc3
   have hc5 := ife hc6 hc5
   obtain rfl := Zg hc5
   refine st ?_
   exact wx (WS.mk (Zd (Zs (web hc6)) Zc) Zb)
 obtain ⟨r0, hw⟩ := hw
 (conv => whnf)
 refine AWP.weak r0 hw ?_
 obtain rfl := Zg hF
 refine ns ?_
 refine Exists.intro [] ?_
 refine st ?_
 exact wx (WS.mk (tc Zc) Zb)

def ZcP (s : ByteArray) : Option (Za) :=
 some (Za.mk 2 s (Zi.mk ([] : List Zi)) ([] : List Za))
def ZcP.M (s : ByteArray) (r : Za) : Prop :=
 Zk Tryz.prog 30 [.c none (.v (.string s))] [] (fun d b => d = .agg [.v (.int .i64 r.fOp), .v (.string r.fName), .sl (r.fBound.fArgs.map Zi.cells), .sl (r.fKids.map Za.cells)] ∧ b = [])
theorem Zfi (s : ByteArray) (r : Za) (hF : ZcP s = some r) : ZcP.M s r := by
 unfold ZcP at hF
 unfold ZcP.M
 refine en Tryz.func30 ?_
 refine AWP.seq ?_
 refine ns ?_
 refine AWP.seq ?_
 refine ns ?_
 obtain rfl := Zg hF
 refine ns ?_
 refine Exists.intro [] ?_
 refine st ?_
 exact wx (WS.mk (Zd (Zt (lc (lc (ZaD WE.nil (ZaD WE.nil Zo))))) Zc) Zb)

def ZbC : Option (Bool) :=
 ZcP (ByteArray.mk #[73, 110, 116]) >>= fun r3 =>
 Zbw (Za.mk 1 (ByteArray.mk #[97]) (Zi.mk ([] : List Zi)) ([] : List Za)) r3 >>= fun r4 =>
 ZcP (ByteArray.mk #[91, 93]) >>= fun r7 =>
 Zbw (Za.mk 1 (ByteArray.mk #[97]) (Zi.mk ([] : List Zi)) ([] : List Za)) (Za.mk 3 (ByteArray.mk #[]) (Zi.mk ([] : List Zi)) ([r7, (Za.mk 1 (ByteArray.mk #[97]) (Zi.mk ([] : List Zi)) ([] : List Za))])) >>= fun r8 =>
 ZcP (ByteArray.mk #[73, 110, 116]) >>= fun r9 =>
 ZcP (ByteArray.mk #[66, 111, 111, 108]) >>= fun r10 =>
 Zbw r9 r10 >>= fun r11 =>
 (if ((r4.2 == 0) && (((r4.1.length : Nat) : Int) == 1)) = true then (ixI r4.1 0) >>= fun x13 =>
 some (x13.fName.toList == (ByteArray.mk #[97]).toList) else some false) >>= fun c14 =>
 (if c14 = true then (ixI r4.1 0) >>= fun x15 =>
 some (x15.fType.fName.toList == (ByteArray.mk #[73, 110, 116]).toList) else some false) >>= fun c16 =>
 some ((c16 && (r8.2 == 23)) && (r11.2 == 22))
def ZbC.M (r : Bool) : Prop :=
 Zk Tryz.prog 11 [] [] (fun d b => d = .c none (.v (.bool r)) ∧ b = [])
theorem Zd8 (r : Bool) (hF : ZbC = some r) : ZbC.M r := by
 unfold ZbC at hF
 unfold ZbC.M
 refine en Tryz.func11 ?_
 refine AWP.seq ?_
 refine ns ?_
 refine AWP.seq ?_
 refine ns ?_
 refine AWP.seq ?_
 obtain ⟨r3, hr3, hF⟩ := bind_some hF
 obtain ⟨r4, hr4, hF⟩ := bind_some hF
 refine nn ?_
 refine Or.inl (Or.inl (Exists.intro 7 (Exists.intro [[], [], [], [], [], [], []] (Exists.intro [([10, 11, 12, 9, 13, 14, 2], [], []), ([10, 11, 12, 9, 13, 14, 2], [], []), ([12, 9, 13, 14, 2], [], []), ([9, 13, 14, 2], [], []), ([13, 14, 2], [], []), ([13, 14, 2], [], []), ([14, 2], [], [])] (Exists.intro [10, 11, 12, 9, 13, 14, 2] (And.intro (by decide +kernel) ?_))))))
 refine dp ?_
 (refine st ?_; apply Exists.intro; apply Exists.intro; apply And.intro; (focus ((conv => whnf); refine Exists.intro [] ?_; (conv => whnf); refine And.intro rfl ?_; (conv => whnf); refine Zk.mono (Zk.weak (rn []) (Zfi (ByteArray.mk #[73, 110, 116]) _ hr3) rfl (WS.mk (tc Zc) Zb)) ?_; rintro d b ⟨rfl, rfl⟩; exact And.intro rfl (And.intro rfl rfl))); apply And.intro; (focus exact rfl); (conv => whnf))
 (refine st ?_; apply Exists.intro; apply Exists.intro; apply And.intro; (focus ((conv => whnf); refine Exists.intro [] ?_; (conv => whnf); refine And.intro rfl ?_; (conv => whnf); refine Zk.mono (Zk.weak (rn []) (Zhe (Za.mk 1 (ByteArray.mk #[97]) (Zi.mk ([] : List Zi)) ([] : List Za)) r3 _ hr4) rfl (WS.mk (Zd (Zt (lc (lc (ZaD WE.nil (ZaD WE.nil Zo))))) (Zd (Zt (lc (lc (lc (lc Zo))))) Zc)) Zb)) ?_; rintro d b ⟨rfl, rfl⟩; exact And.intro rfl (And.intro rfl rfl))); apply And.intro; (focus exact rfl); (conv => whnf))
 refine dp ?_
 refine dp ?_
 refine dp ?_
 refine dp ?_
 refine st ?_
 refine AWP.seq ?_
 obtain ⟨r7, hr7, hF⟩ := bind_some hF
 obtain ⟨r8, hr8, hF⟩ := bind_some hF
 refine nn ?_
 refine Or.inl (Or.inl (Exists.intro 10 (Exists.intro [[], [], [], [], [], [], [], [], [], []] (Exists.intro [([16, 17, 18, 19, 20, 21, 15, 22, 23, 4], [], []), ([16, 17, 18, 19, 20, 21, 15, 22, 23, 4], [], []), ([16, 17, 18, 19, 20, 21, 15, 22, 23, 4], [], []), ([16, 19, 20, 21, 15, 22, 23, 4], [], []), ([16, 20, 21, 15, 22, 23, 4], [], []), ([21, 15, 22, 23, 4], [], []), ([15, 22, 23, 4], [], []), ([22, 23, 4], [], []), ([22, 23, 4], [], []), ([23, 4], [], [])] (Exists.intro [16, 17, 18, 19, 20, 21, 15, 22, 23, 4] (And.intro (by decide +kernel) ?_))))))
 refine dp ?_
 (refine st ?_; apply Exists.intro; apply Exists.intro; apply And.intro; (focus ((conv => whnf); refine Exists.intro [] ?_; (conv => whnf); refine And.intro rfl ?_; (conv => whnf); refine Zk.mono (Zk.weak (rn []) (Zfi (ByteArray.mk #[91, 93]) _ hr7) rfl (WS.mk (tc Zc) Zb)) ?_; rintro d b ⟨rfl, rfl⟩; exact And.intro rfl (And.intro rfl rfl))); apply And.intro; (focus exact rfl); (conv => whnf))
 refine dp ?_
 refine de (Zcm (f := Za.cells) (Zea (Za.cells_eq r7) (lc (lc (lc (lc Zo))))) (Zcm (f := Za.cells) (Zea (Za.cells_eq (Za.mk 1 (ByteArray.mk #[97]) (Zi.mk ([] : List Zi)) ([] : List Za))) (lc (lc (ZaD WE.nil (ZaD WE.nil Zo))))) (Zaw (f := Za.cells)))) ?_
 refine dp ?_
 (refine st ?_; apply Exists.intro; apply Exists.intro; apply And.intro; (focus ((conv => whnf); refine Exists.intro [] ?_; (conv => whnf); refine And.intro rfl ?_; (conv => whnf); refine Zk.mono (Zk.weak (rn []) (Zhe (Za.mk 1 (ByteArray.mk #[97]) (Zi.mk ([] : List Zi)) ([] : List Za)) (Za.mk 3 (ByteArray.mk #[]) (Zi.mk ([] : List Zi)) ([r7, (Za.mk 1 (ByteArray.mk #[97]) (Zi.mk ([] : List Zi)) ([] : List Za))])) _ hr8) rfl (WS.mk (Zd (Zt (lc (lc (ZaD WE.nil (ZaD WE.nil Zo))))) (Zd (Zt (lc (lc (ZaD WE.nil (lc Zo))))) Zc)) Zb)) ?_; rintro d b ⟨rfl, rfl⟩; exact And.intro rfl (And.intro rfl rfl))); apply And.intro; (focus exact rfl); (conv => whnf))
 refine dp ?_
 refine dp ?_
 refine dp ?_
 refine dp ?_
 refine st ?_
 refine AWP.seq ?_
 obtain ⟨r9, hr9, hF⟩ := bind_some hF
 obtain ⟨r10, Zvq, hF⟩ := bind_some hF
 obtain ⟨r11, Zvo, hF⟩ := bind_some hF
 refine ns ?_
 refine e3 ?_
 refine st ?_
 refine cm (Zk.weak (rn []) (Zfi (ByteArray.mk #[73, 110, 116]) _ hr9) rfl (WS.mk (tc Zc) Zb)) ?_
 refine st ?_
 refine e3 ?_
 refine st ?_
 refine cm (Zk.weak (rn []) (Zfi (ByteArray.mk #[66, 111, 111, 108]) _ Zvq) rfl (WS.mk (tc Zc) Zb)) ?_
 refine st ?_
 refine e3 ?_
 refine st ?_
 refine cm (Zk.weak (rn []) (Zhe r9 r10 _ Zvo) rfl (WS.mk (Zd (Zt (lc (lc (lc (lc Zo))))) (Zd (Zt (lc (lc (lc (lc Zo))))) Zc)) Zb)) ?_
 refine st ?_
 refine AWP.seq ?_
 obtain ⟨c14, Zc5, hF⟩ := bind_some hF
 obtain ⟨c16, ZeI, hF⟩ := bind_some hF
 refine AWP.cutN (fun T => ∃ r, WS r T ⟨[(0, .c none (.v (.bool ((c16 && (r8.2 == 23)) && (r11.2 == 22)))))], []⟩) ?_ (fun T hw => ?_)
 ·refine ns ?_
  refine Zl true (fun Zfl => ?_) (fun Zfl => ?_)
  ·(conv => whnf)
   refine st ?_
   intro hlen12
   (try rw [List.length_map] at hlen12)
   (try rw [List.length_map])
   refine st ?_
   refine Zl true (fun ZjH => ?_) (fun ZjH => ?_)
   ·have Zc5 := ift (And.intro Zfl ZjH) Zc5
    obtain ⟨x13, hx130, Zre, Zc5⟩ := Zej Zc5
    (conv => whnf)
    refine sr (Zdx (f := Ze.cells) (Ze.cells_eq x13) Zre) ?_
    obtain rfl := Zg Zc5
    refine st ?_
    refine Zl true (fun ZnB => ?_) (fun ZnB => ?_)
    ·have ZeI := ift (And.intro Zfl (And.intro ZjH ZnB)) ZeI
     obtain ⟨x15, ZBR, ZAo, ZeI⟩ := Zej ZeI
     (conv => whnf)
     refine sr (Zdx (f := Ze.cells) (Ze.cells_eq x15) ZAo) ?_
     obtain rfl := Zg ZeI
     refine st ?_
     refine Zl true (fun ZuN => ?_) (fun ZuN => ?_)
     ·(conv => whnf)
      refine st ?_
      refine Zl true (fun Zv3 => ?_) (fun Zv3 => ?_)
      ·(conv => whnf)
       refine st ?_
       exact wx (WS.mk (Zd (Zs (web (And.intro Zfl (And.intro ZjH (And.intro ZnB (And.intro ZuN Zv3)))))) Zc) Zb)
      ·(conv => whnf)
       refine st ?_
       exact wx (WS.mk (Zd (Zs (web (And.intro Zfl (And.intro ZjH (And.intro ZnB (And.intro ZuN Zv3)))))) Zc) Zb)
     ·(conv => whnf)
      refine st ?_
      exact wx (WS.mk (Zd (Zs (web (And.intro Zfl (And.intro ZjH (And.intro ZnB ZuN))))) Zc) Zb)
    ·have ZeI := ife (And.intro Zfl (And.intro ZjH ZnB)) ZeI
     (conv => whnf)
     obtain rfl := Zg ZeI
     refine st ?_
     exact wx (WS.mk (Zd (Zs (web (And.intro Zfl (And.intro ZjH ZnB)))) Zc) Zb)
   ·have Zc5 := ife (And.intro Zfl ZjH) Zc5
    (conv => whnf)
    obtain rfl := Zg Zc5
    have ZeI := ife (And.intro Zfl ZjH) ZeI
    obtain rfl := Zg ZeI
    refine st ?_
    exact wx (WS.mk (Zd (Zs (web (And.intro Zfl ZjH))) Zc) Zb)
  ·(conv => whnf)
   have Zc5 := ife Zfl Zc5
   obtain rfl := Zg Zc5
   have ZeI := ife Zfl ZeI
   obtain rfl := Zg ZeI
   refine st ?_
   exact wx (WS.mk (Zd (Zs (web Zfl)) Zc) Zb)
 obtain ⟨r0, hw⟩ := hw
 (conv => whnf)
 refine AWP.weak r0 hw ?_
 obtain rfl := Zg hF
 refine ns ?_
 refine Exists.intro [] ?_
 refine st ?_
 exact wx (WS.mk (tc Zc) Zb)

def Za4 (l : (List Za)) (n_3 : Int) (i_4 : Nat) (Zaz : (List Za)) : Option (Bool) :=
 (match Zaz with
 | x22 :: ZvR =>
 Zai x22 >>= fun r25 =>
 Zaf x22 >>= fun r26 =>
 if (decide (r26 > 110)) = true then
 some false
 else
 Za4 l (IntKind.i64.wrap (n_3 + r25)) (i_4 + 1) ZvR
 | [] =>
 some (decide (n_3 ≤ 400)))
 partial_fixpoint
def Za4.M (l : (List Za)) (n_3 : Int) (i_4 : Nat) (Zaz : (List Za)) (r : Bool) : Prop :=
 ∀ Zci : List Za, l = Zci ++ Zaz → i_4 = Zci.length → AWL Tryz.prog 26 (Code.sub (Zq Tryz.f10) [1, 1, 0, 1, 0, 0]) (Code.cont Tryz.prog 26 (Zq Tryz.f10) [1, 1, 0, 1, 0] (ZbS tab Tryz.f10.results (ZbX (.c none (.v (.bool r))) []))) ⟨[(0, .c none (.sl (l.map Za.cells))), (3, .c none (.v (.int .i64 n_3))), (4, .c none (.v (.int .i64 ((i_4 : Nat) : Int))))], []⟩
theorem Zky (l : (List Za)) (n_3 : Int) (i_4 : Nat) (Zaz : (List Za)) : ∀ r, Za4 l n_3 i_4 Zaz = some r → Za4.M l n_3 i_4 Zaz r := by
 refine Za4.partial_correctness l (fun n_3 i_4 Zaz r => Za4.M l n_3 i_4 Zaz r) ?_ n_3 i_4 Zaz
 intro lazyclaw18_small_l1' ZgI n_3 i_4 Zaz r hF
 have Zku := fun (_l : (List Za)) (n_3 : Int) (i_4 : Nat) (Zaz : (List Za)) => ZgI n_3 i_4 Zaz
 clear ZgI
 unfold Za4.M
 intro Zci Zfr Zft
 refine AWL.step ?_
 refine AWP.seq ?_
 refine AWP.seq ?_
 refine ns ?_
 intro hlen21
 (try rw [List.length_map] at hlen21)
 (try rw [List.length_map])
 refine st ?_
 refine nw ?_
 refine ZS Zfr Zft (fun x22 ZvR Zvy ZBr ZCI => ?_) (fun Zvy => ?_)
 ·subst Zvy
  refine nw ?_
  refine AWP.seq ?_
  refine AWP.block ?_
  refine AWP.seq ?_
  obtain ⟨r25, ZCs, hF⟩ := bind_some hF
  refine nn ?_
  refine sr (Zau (f := Za.cells) (Za.cells_eq x22) ZBr) ?_
  refine st ?_
  refine e3 ?_
  refine st ?_
  refine cm (Zk.weak (rn []) (Zgy x22 _ ZCs) rfl (WS.mk (Zd (Zt (lc (lc (lc (lc Zo))))) Zc) Zb)) ?_
  refine st ?_
  refine AWP.seq ?_
  obtain ⟨r26, ZGu, hF⟩ := bind_some hF
  refine nn ?_
  refine sr (Zau (f := Za.cells) (Za.cells_eq x22) ZBr) ?_
  refine st ?_
  refine e3 ?_
  refine st ?_
  refine cm (Zk.weak (rn []) (ZfY x22 _ ZGu) rfl (WS.mk (Zd (Zt (lc (lc (lc (lc Zo))))) Zc) Zb)) ?_
  refine st ?_
  refine nw ?_
  refine Zj hF (fun Zta hF => ?_) (fun Zta hF => ?_)
  ·refine AWP.seq ?_
   refine ns ?_
   obtain rfl := Zg hF
   refine ns ?_
   refine Exists.intro [] ?_
   refine st ?_
   exact wx (WS.mk (tc Zc) Zb)
  ·refine nw ?_
   refine ns ?_
   refine AWL.weak (rn []) ?_ (Zku l (IntKind.i64.wrap (n_3 + r25)) (i_4 + 1) ZvR _ hF (Zci ++ [x22]) (by rw [Zfr]; simp) (by rw [Zft]; simp))
   exact (WS.mk (tc (tc (Zd (Zs (Zdd (ZZ hlen21 ZCI))) Zc))) Zb)
 ·subst Zvy
  refine nw ?_
  refine AWP.seq ?_
  refine ns ?_
  obtain rfl := Zg hF
  refine ns ?_
  refine Exists.intro [] ?_
  refine st ?_
  exact wx (WS.mk (tc Zc) Zb)

def ZcW (l : (List Za)) : Option (Bool) :=
 Za4 l 0 0 l
def ZcW.M (l : (List Za)) (r : Bool) : Prop :=
 Zk Tryz.prog 10 [.c none (.sl (l.map Za.cells))] [] (fun d b => d = .c none (.v (.bool r)) ∧ b = [])
theorem ZmQ (l : (List Za)) (r : Bool) (hF : ZcW l = some r) : ZcW.M l r := by
 unfold ZcW at hF
 unfold ZcW.M
 refine en Tryz.func10 ?_
 refine AWP.seq ?_
 refine ns ?_
 refine AWP.seq ?_
 refine ns ?_
 refine AWP.seq ?_
 refine AWP.seq ?_
 refine ns ?_
 refine AWP.block ?_
 refine AWP.loop ?_
 refine AWL.weak (rn []) ?_ (Zky l 0 0 l _ hF ([]) rfl rfl)
 exact (WS.mk (tc (tc (tc Zc))) Zb)

def Za1 (s : (List Ze)) (l_3 : (List Za)) (i_4 : Nat) (Zaz : (List Ze)) : Option ((List Za)) :=
 (match Zaz with
 | x16 :: Zib =>
 ZK ((l_3.length + ([x16.fType]).length) * 72 ≤ 140737488355328) >>= fun _ =>
 Za1 s (l_3 ++ ([x16.fType])) (i_4 + 1) Zib
 | [] =>
 some l_3)
 partial_fixpoint
def Za1.M (s : (List Ze)) (l_3 : (List Za)) (i_4 : Nat) (Zaz : (List Ze)) (r : (List Za)) : Prop :=
 ∀ Zci : List Ze, s = Zci ++ Zaz → i_4 = Zci.length → AWL Tryz.prog 21 (Code.sub (Zq Tryz.f20) [1, 1, 0, 1, 0, 0]) (Code.cont Tryz.prog 21 (Zq Tryz.f20) [1, 1, 0, 1, 0] (ZbS tab Tryz.f20.results (ZbX (.c (some (0, 28)) (.sl (r.map Za.cells))) []))) ⟨[(0, .c none (.sl (s.map Ze.cells))), (3, .c (some (3, 28)) (.sl (l_3.map Za.cells))), (4, .c none (.v (.int .i64 ((i_4 : Nat) : Int))))], []⟩
theorem ZkV (s : (List Ze)) (l_3 : (List Za)) (i_4 : Nat) (Zaz : (List Ze)) : ∀ r, Za1 s l_3 i_4 Zaz = some r → Za1.M s l_3 i_4 Zaz r := by
 refine Za1.partial_correctness s (fun l_3 i_4 Zaz r => Za1.M s l_3 i_4 Zaz r) ?_ l_3 i_4 Zaz
 intro lazyclaw18_types_l1' ZgK l_3 i_4 Zaz r hF
 have ZkP := fun (_s : (List Ze)) (l_3 : (List Za)) (i_4 : Nat) (Zaz : (List Ze)) => ZgK l_3 i_4 Zaz
 clear ZgK
 unfold Za1.M
 intro Zci Zfr Zft
 refine AWL.step ?_
 refine AWP.seq ?_
 refine AWP.seq ?_
 refine ns ?_
 intro hlen15
 (try rw [List.length_map] at hlen15)
 (try rw [List.length_map])
 refine st ?_
 refine nw ?_
 refine ZS Zfr Zft (fun x16 Zib ZiX Zqu Zrv => ?_) (fun ZiX => ?_)
 ·subst ZiX
  refine nw ?_
  refine AWP.seq ?_
  refine AWP.block ?_
  obtain ⟨ZGO, hF⟩ := Zy hF
  refine nn ?_
  refine sr (Zau (f := Ze.cells) (Ze.cells_eq x16) Zqu) ?_
  refine st ?_
  refine Exists.intro _ (And.intro (Zcm (f := Za.cells) (Zea (Za.cells_eq x16.fType) (lc (lc (lc (lc Zo))))) (Zaw (f := Za.cells))) ?_)
  refine sa (fun l => ZbW l (fun x => Za.cells_len x)) ZGO ?_
  refine Exists.intro _ (And.intro (WE.refl _) ?_)
  rw [← List.map_append]
  refine st ?_
  refine ns ?_
  refine AWL.weak (rn [(19, 3)]) ?_ (ZkP s (l_3 ++ ([x16.fType])) (i_4 + 1) Zib _ hF (Zci ++ [x16]) (by rw [Zfr]; simp) (by rw [Zft]; simp))
  exact (WS.mk (tc (Zd (Zay rfl (WE.refl _)) (Zd (Zs (Zdd (ZZ hlen15 Zrv))) Zc))) Zb)
 ·subst ZiX
  refine nw ?_
  refine AWP.seq ?_
  refine ns ?_
  obtain rfl := Zg hF
  refine ns ?_
  refine Exists.intro [] ?_
  refine st ?_
  exact Exists.intro (rn [(3, 0)]) (WS.mk (Zd (Zay rfl (WE.refl _)) Zc) Zb)

def ZcX (s : (List Ze)) : Option ((List Za)) :=
 Za1 s ([] : List Za) 0 s
def ZcX.M (s : (List Ze)) (r : (List Za)) : Prop :=
 Zk Tryz.prog 20 [.c none (.sl (s.map Ze.cells))] [] (fun d b => d = .c (some (0, 28)) (.sl (r.map Za.cells)) ∧ b = [])
theorem ZmB (s : (List Ze)) (r : (List Za)) (hF : ZcX s = some r) : ZcX.M s r := by
 unfold ZcX at hF
 unfold ZcX.M
 refine en Tryz.func20 ?_
 refine AWP.seq ?_
 refine ns ?_
 refine AWP.seq ?_
 refine ns ?_
 refine Exists.intro _ (And.intro (Zaw (f := Za.cells)) ?_)
 refine st ?_
 refine AWP.seq ?_
 refine AWP.seq ?_
 refine ns ?_
 refine AWP.block ?_
 refine AWP.loop ?_
 refine AWL.weak (rn [(5, 3)]) ?_ (ZkV s ([] : List Za) 0 s _ hF ([]) rfl rfl)
 exact (WS.mk (tc (Zd (Zay rfl (WE.refl _)) (tc Zc))) Zb)

def Zbm (a : Za) (b : Za) (s : (List Ze)) : Option (Bool) :=
 Z7 s a >>= fun r3 =>
 Z7 s b >>= fun r4 =>
 ZcX s >>= fun r42 =>
 ZK ((r42.length + ([a, b]).length) * 72 ≤ 140737488355328) >>= fun _ =>
 ZcW (r42 ++ ([a, b])) >>= fun r44 =>
 (if (!r44) = true then some true else Zcl a >>= fun r45 =>
 some (!r45)) >>= fun c46 =>
 (if c46 = true then some true else Zcl b >>= fun r47 =>
 some (!r47)) >>= fun c48 =>
 (if ((c48 || (r3.fOp == 0)) || (r4.fOp == 0)) = true then some true else ZcD r3 r4 >>= fun r49 =>
 some (!r49)) >>= fun c50 =>
 if c50 = true then
 ZbC >>= fun r58 =>
 some r58
 else
 Zbw a b >>= fun r59 =>
 if (r59.2 != 0) = true then
 (if (r59.2 == 3) = true then ZbC >>= fun r64 =>
 some r64 else some false) >>= fun c65 =>
 some c65
 else
 Z7 r59.1 a >>= fun r67 =>
 (if (r67.fOp == 0) = true then some true else Z7 s r67 >>= fun r73 =>
 ZcD r73 r3 >>= fun r74 =>
 some r74) >>= fun c75 =>
 (if c75 = true then ZbC >>= fun r76 =>
 some r76 else some false) >>= fun c77 =>
 some c77
def Zbm.M (a : Za) (b : Za) (s : (List Ze)) (r : Bool) : Prop :=
 Zk Tryz.prog 6 [.agg [.v (.int .i64 a.fOp), .v (.string a.fName), .sl (a.fBound.fArgs.map Zi.cells), .sl (a.fKids.map Za.cells)], .agg [.v (.int .i64 b.fOp), .v (.string b.fName), .sl (b.fBound.fArgs.map Zi.cells), .sl (b.fKids.map Za.cells)], .c none (.sl (s.map Ze.cells))] [] (fun d b => d = .c none (.v (.bool r)) ∧ b = [])
theorem ZiF (a : Za) (b : Za) (s : (List Ze)) (r : Bool) (hF : Zbm a b s = some r) : Zbm.M a b s r := by
 unfold Zbm at hF
 unfold Zbm.M
 refine en Tryz.func6 ?_
 refine AWP.seq ?_
 refine ns ?_
 refine AWP.seq ?_
 obtain ⟨r3, hr3, hF⟩ := bind_some hF
 obtain ⟨r4, hr4, hF⟩ := bind_some hF
 refine nn ?_
 refine Or.inl (Or.inl (Exists.intro 8 (Exists.intro [[], [], [], [], [], [], [7], [8]] (Exists.intro [([12, 13, 14, 15, 16, 17, 7, 8], [7, 8], []), ([12, 13, 14, 15, 16, 17, 7, 8], [7, 8], []), ([14, 15, 16, 17, 7, 8], [7, 8], []), ([12, 13, 14, 15, 16, 17, 7, 8], [7, 8], []), ([12, 13, 14, 15, 16, 17, 7, 8], [7, 8], []), ([17, 7, 8], [7, 8], []), ([12, 13, 14, 15, 16, 17, 7, 8], [8], [7]), ([12, 13, 14, 15, 16, 17, 7, 8], [7], [8])] (Exists.intro [12, 13, 14, 15, 16, 17, 7, 8] (And.intro (by decide +kernel) ?_))))))
 refine dp ?_
 refine dp ?_
 (refine st ?_; apply Exists.intro; apply Exists.intro; apply And.intro; (focus ((conv => whnf); refine Exists.intro [] ?_; (conv => whnf); refine And.intro rfl ?_; (conv => whnf); refine Zk.mono (Zk.weak (rn []) (Zex s a _ hr3) rfl (WS.mk (tc (Zd (Zt (lc (lc (lc (lc Zo))))) Zc)) Zb)) ?_; rintro d b ⟨rfl, rfl⟩; exact And.intro rfl (And.intro rfl rfl))); apply And.intro; (focus exact rfl); (conv => whnf))
 refine dp ?_
 refine dp ?_
 (refine st ?_; apply Exists.intro; apply Exists.intro; apply And.intro; (focus ((conv => whnf); refine Exists.intro [] ?_; (conv => whnf); refine And.intro rfl ?_; (conv => whnf); refine Zk.mono (Zk.weak (rn []) (Zex s b _ hr4) rfl (WS.mk (tc (Zd (Zt (lc (lc (lc (lc Zo))))) Zc)) Zb)) ?_; rintro d b ⟨rfl, rfl⟩; exact And.intro rfl (And.intro rfl rfl))); apply And.intro; (focus exact rfl); (conv => whnf))
 refine dp ?_
 refine dp ?_
 refine st ?_
 refine AWP.seq ?_
 refine AWP.seq ?_
 obtain ⟨r42, ZD6, hF⟩ := bind_some hF
 obtain ⟨ZD4, hF⟩ := Zy hF
 obtain ⟨r44, ZIb, hF⟩ := bind_some hF
 obtain ⟨c46, ZrJ, hF⟩ := bind_some hF
 obtain ⟨c48, ZmN, hF⟩ := bind_some hF
 obtain ⟨c50, Zfk, hF⟩ := bind_some hF
 refine AWP.cutN (fun T => ∃ r, WS r T ⟨[(2, .c none (.sl (s.map Ze.cells))), (3, .ptr 3 0), (4, .ptr 4 0), (7, .ptr 7 0), (51, .c none (.v (.bool c50)))], [(3, [(none, .v (.int .i64 a.fOp)), (none, .v (.string a.fName)), (none, .sl (a.fBound.fArgs.map Zi.cells)), (none, .sl (a.fKids.map Za.cells))]), (4, [(none, .v (.int .i64 b.fOp)), (none, .v (.string b.fName)), (none, .sl (b.fBound.fArgs.map Zi.cells)), (none, .sl (b.fKids.map Za.cells))]), (7, [(none, .v (.int .i64 r3.fOp)), (none, .v (.string r3.fName)), (none, .sl (r3.fBound.fArgs.map Zi.cells)), (none, .sl (r3.fKids.map Za.cells))])]⟩) ?_ (fun T hw => ?_)
 ·refine nn ?_
  refine Or.inr (Or.inr (Exists.intro 29 (Exists.intro [29, 30, 31, 32, 33] (And.intro (by decide +kernel) ?_))))
  refine Or.inr (Exists.intro [2, 3, 4] (Exists.intro [[20, 21, 22], [20, 21, 22], [22]] (Exists.intro [3, 4] (Exists.intro [3, 4, 20, 21, 22] (Exists.intro [20, 21, 22] (Exists.intro [0, 1, 5, 6, 7, 8, 9, 10, 11, 12, 13, 14, 15, 16, 17, 18, 19, 20, 21, 22, 23, 24, 25, 26, 27, 28] (And.intro (by decide +kernel) ?_)))))))
  refine dp ?_
  refine dp ?_
  refine de (Zcm (f := Za.cells) (Zea (Za.cells_eq a) (lc (lc (lc (lc Zo))))) (Zcm (f := Za.cells) (Zea (Za.cells_eq b) (lc (lc (lc (lc Zo))))) (Zaw (f := Za.cells)))) ?_
  refine st ?_
  refine e3 ?_
  refine st ?_
  refine cm (Zk.weak (rn []) (ZmB s _ ZD6) rfl (WS.mk (tc Zc) Zb)) ?_
  refine st ?_
  refine sa (fun l => ZbW l (fun x => Za.cells_len x)) ZD4 ?_
  refine Exists.intro _ (And.intro (WE.refl _) ?_)
  rw [← List.map_append]
  refine st ?_
  refine Exists.intro [23] (Exists.intro [] (Exists.intro [] ?_))
  refine st ?_
  refine cm (Zk.weak (rn []) (ZmQ (r42 ++ ([a, b])) _ ZIb) rfl (WS.mk (tc Zc) Zb)) ?_
  refine st ?_
  refine Zl false (fun Zfb => ?_) (fun Zfb => ?_)
  ·have ZrJ := ift Zfb ZrJ
   (conv => whnf)
   obtain rfl := Zg ZrJ
   have ZmN := ift Zfb ZmN
   obtain rfl := Zg ZmN
   have Zfk := ift Zfb Zfk
   refine st ?_
   refine Exists.intro [29, 30] (And.intro (by decide +kernel) (And.intro ?_ ?_))
   ·refine st ?_
    refine Exists.intro [30] (And.intro (by decide +kernel) ?_)
    refine st ?_
    refine Exists.intro [31] (And.intro (by decide +kernel) ?_)
    refine st ?_
    refine Exists.intro [32] (And.intro (by decide +kernel) ?_)
    refine st ?_
    refine Exists.intro [33] (And.intro (by decide +kernel) ?_)
    obtain rfl := Zg Zfk
    refine st ?_
    exact wx (WS.mk (tc (tp (tp (tp (Zd (Zs (web Zfb)) Zc))))) (Zf rfl (cc (cc (cc (cc Zh)))) (Zf rfl (cc (cc (cc (cc Zh)))) (Zf rfl (cc (cc (cc (cc Zh)))) Zb))))
   ·refine st ?_
    refine Exists.intro [29] (And.intro (by decide +kernel) ?_)
    refine st ?_
    refine Exists.intro [31] (And.intro (by decide +kernel) ?_)
    refine st ?_
    refine Exists.intro [32] (And.intro (by decide +kernel) ?_)
    refine st ?_
    refine Exists.intro [33] (And.intro (by decide +kernel) ?_)
    obtain rfl := Zg Zfk
    refine st ?_
    exact wx (WS.mk (tc (tp (tp (tp (Zd (Zs (web Zfb)) Zc))))) (Zf rfl (cc (cc (cc (cc Zh)))) (Zf rfl (cc (cc (cc (cc Zh)))) (Zf rfl (cc (cc (cc (cc Zh)))) Zb))))
  ·have ZrJ := ife Zfb ZrJ
   obtain ⟨r45, ZCu, ZrJ⟩ := bind_some ZrJ
   (conv => whnf)
   refine st ?_
   refine e3 ?_
   refine st ?_
   refine cm (Zk.weak (rn []) (ZhX a _ ZCu) rfl (WS.mk (Zd (Zt (lc (lc (lc (lc Zo))))) Zc) Zb)) ?_
   refine st ?_
   obtain rfl := Zg ZrJ
   refine st ?_
   refine Zl false (fun Zi7 => ?_) (fun Zi7 => ?_)
   ·have ZmN := ift (And.intro Zfb Zi7) ZmN
    (conv => whnf)
    obtain rfl := Zg ZmN
    have Zfk := ift (And.intro Zfb Zi7) Zfk
    refine st ?_
    refine Exists.intro [29, 30] (And.intro (by decide +kernel) (And.intro ?_ ?_))
    ·refine st ?_
     refine Exists.intro [30] (And.intro (by decide +kernel) ?_)
     refine st ?_
     refine Exists.intro [31] (And.intro (by decide +kernel) ?_)
     refine st ?_
     refine Exists.intro [32] (And.intro (by decide +kernel) ?_)
     refine st ?_
     refine Exists.intro [33] (And.intro (by decide +kernel) ?_)
     obtain rfl := Zg Zfk
     refine st ?_
     exact wx (WS.mk (tc (tp (tp (tp (Zd (Zs (web (And.intro Zfb Zi7))) Zc))))) (Zf rfl (cc (cc (cc (cc Zh)))) (Zf rfl (cc (cc (cc (cc Zh)))) (Zf rfl (cc (cc (cc (cc Zh)))) Zb))))
    ·refine st ?_
     refine Exists.intro [29] (And.intro (by decide +kernel) ?_)
     refine st ?_
     refine Exists.intro [31] (And.intro (by decide +kernel) ?_)
     refine st ?_
     refine Exists.intro [32] (And.intro (by decide +kernel) ?_)
     refine st ?_
     refine Exists.intro [33] (And.intro (by decide +kernel) ?_)
     obtain rfl := Zg Zfk
     refine st ?_
     exact wx (WS.mk (tc (tp (tp (tp (Zd (Zs (web (And.intro Zfb Zi7))) Zc))))) (Zf rfl (cc (cc (cc (cc Zh)))) (Zf rfl (cc (cc (cc (cc Zh)))) (Zf rfl (cc (cc (cc (cc Zh)))) Zb))))
   ·have ZmN := ife (And.intro Zfb Zi7) ZmN
    obtain ⟨r47, ZHJ, ZmN⟩ := bind_some ZmN
    (conv => whnf)
    refine st ?_
    refine e3 ?_
    refine st ?_
    refine cm (Zk.weak (rn []) (ZhX b _ ZHJ) rfl (WS.mk (Zd (Zt (lc (lc (lc (lc Zo))))) Zc) Zb)) ?_
    refine st ?_
    obtain rfl := Zg ZmN
    refine st ?_
    refine Zl false (fun ZjO => ?_) (fun ZjO => ?_)
    ·(conv => whnf)
     have Zfk := ift (And.intro Zfb (And.intro Zi7 ZjO)) Zfk
     refine st ?_
     refine Exists.intro [29, 30] (And.intro (by decide +kernel) (And.intro ?_ ?_))
     ·refine st ?_
      refine Exists.intro [30] (And.intro (by decide +kernel) ?_)
      refine st ?_
      refine Exists.intro [31] (And.intro (by decide +kernel) ?_)
      refine st ?_
      refine Exists.intro [32] (And.intro (by decide +kernel) ?_)
      refine st ?_
      refine Exists.intro [33] (And.intro (by decide +kernel) ?_)
      obtain rfl := Zg Zfk
      refine st ?_
      exact wx (WS.mk (tc (tp (tp (tp (Zd (Zs (web (And.intro Zfb (And.intro Zi7 ZjO)))) Zc))))) (Zf rfl (cc (cc (cc (cc Zh)))) (Zf rfl (cc (cc (cc (cc Zh)))) (Zf rfl (cc (cc (cc (cc Zh)))) Zb))))
     ·refine st ?_
      refine Exists.intro [29] (And.intro (by decide +kernel) ?_)
      refine st ?_
      refine Exists.intro [31] (And.intro (by decide +kernel) ?_)
      refine st ?_
      refine Exists.intro [32] (And.intro (by decide +kernel) ?_)
      refine st ?_
      refine Exists.intro [33] (And.intro (by decide +kernel) ?_)
      obtain rfl := Zg Zfk
      refine st ?_
      exact wx (WS.mk (tc (tp (tp (tp (Zd (Zs (web (And.intro Zfb (And.intro Zi7 ZjO)))) Zc))))) (Zf rfl (cc (cc (cc (cc Zh)))) (Zf rfl (cc (cc (cc (cc Zh)))) (Zf rfl (cc (cc (cc (cc Zh)))) Zb))))
    ·(conv => whnf)
     refine st ?_
     refine Zl false (fun ZeN => ?_) (fun ZeN => ?_)
     ·(conv => whnf)
      have Zfk := ift (And.intro Zfb (And.intro Zi7 (And.intro ZjO ZeN))) Zfk
      refine st ?_
      refine Exists.intro [29, 30] (And.intro (by decide +kernel) (And.intro ?_ ?_))
      ·refine st ?_
       refine Exists.intro [30] (And.intro (by decide +kernel) ?_)
       refine st ?_
       refine Exists.intro [31] (And.intro (by decide +kernel) ?_)
       refine st ?_
       refine Exists.intro [32] (And.intro (by decide +kernel) ?_)
       refine st ?_
       refine Exists.intro [33] (And.intro (by decide +kernel) ?_)
       obtain rfl := Zg Zfk
       refine st ?_
       exact wx (WS.mk (tc (tp (tp (tp (Zd (Zs (web (And.intro Zfb (And.intro Zi7 (And.intro ZjO ZeN))))) Zc))))) (Zf rfl (cc (cc (cc (cc Zh)))) (Zf rfl (cc (cc (cc (cc Zh)))) (Zf rfl (cc (cc (cc (cc Zh)))) Zb))))
      ·refine st ?_
       refine Exists.intro [29] (And.intro (by decide +kernel) ?_)
       refine st ?_
       refine Exists.intro [31] (And.intro (by decide +kernel) ?_)
       refine st ?_
       refine Exists.intro [32] (And.intro (by decide +kernel) ?_)
       refine st ?_
       refine Exists.intro [33] (And.intro (by decide +kernel) ?_)
       obtain rfl := Zg Zfk
       refine st ?_
       exact wx (WS.mk (tc (tp (tp (tp (Zd (Zs (web (And.intro Zfb (And.intro Zi7 (And.intro ZjO ZeN))))) Zc))))) (Zf rfl (cc (cc (cc (cc Zh)))) (Zf rfl (cc (cc (cc (cc Zh)))) (Zf rfl (cc (cc (cc (cc Zh)))) Zb))))
     ·(conv => whnf)
      refine st ?_
      refine Exists.intro [29, 30] (And.intro (by decide +kernel) (And.intro ?_ ?_))
      ·refine st ?_
       refine Zl false (fun ZoZ => ?_) (fun ZoZ => ?_)
       ·have Zfk := ift (And.intro Zfb (And.intro Zi7 (And.intro ZjO (And.intro ZeN ZoZ)))) Zfk
        (conv => whnf)
        refine st ?_
        refine Exists.intro [30] (And.intro (by decide +kernel) ?_)
        refine st ?_
        refine Exists.intro [31] (And.intro (by decide +kernel) ?_)
        refine st ?_
        refine Exists.intro [32] (And.intro (by decide +kernel) ?_)
        refine st ?_
        refine Exists.intro [33] (And.intro (by decide +kernel) ?_)
        obtain rfl := Zg Zfk
        refine st ?_
        exact wx (WS.mk (tc (tp (tp (tp (Zd (Zs (web (And.intro Zfb (And.intro Zi7 (And.intro ZjO (And.intro ZeN ZoZ)))))) Zc))))) (Zf rfl (cc (cc (cc (cc Zh)))) (Zf rfl (cc (cc (cc (cc Zh)))) (Zf rfl (cc (cc (cc (cc Zh)))) Zb))))
       ·have Zfk := ife (And.intro Zfb (And.intro Zi7 (And.intro ZjO (And.intro ZeN ZoZ)))) Zfk
        obtain ⟨r49, ZzR, Zfk⟩ := bind_some Zfk
        (conv => whnf)
        refine st ?_
        refine Exists.intro [30] (And.intro (by decide +kernel) ?_)
        refine st ?_
        refine Exists.intro [31] (And.intro (by decide +kernel) ?_)
        refine st ?_
        refine e3 ?_
        refine st ?_
        refine cm (Zk.weak (rn []) (ZfU r3 r4 _ ZzR) rfl (WS.mk (Zd (Zt (lc (lc (lc (lc Zo))))) (Zd (Zt (lc (lc (lc (lc Zo))))) Zc)) Zb)) ?_
        refine st ?_
        refine Exists.intro [32] (And.intro (by decide +kernel) ?_)
        refine st ?_
        refine Exists.intro [33] (And.intro (by decide +kernel) ?_)
        obtain rfl := Zg Zfk
        refine st ?_
        exact wx (WS.mk (tc (tp (tp (tp (Zd (Zs (web (And.intro Zfb (And.intro Zi7 (And.intro ZjO (And.intro ZeN ZoZ)))))) Zc))))) (Zf rfl (cc (cc (cc (cc Zh)))) (Zf rfl (cc (cc (cc (cc Zh)))) (Zf rfl (cc (cc (cc (cc Zh)))) Zb))))
      ·refine st ?_
       refine Zl false (fun Zhm => ?_) (fun Zhm => ?_)
       ·have Zfk := ift (And.intro Zfb (And.intro Zi7 (And.intro ZjO (And.intro ZeN Zhm)))) Zfk
        (conv => whnf)
        refine st ?_
        refine Exists.intro [29] (And.intro (by decide +kernel) ?_)
        refine st ?_
        refine Exists.intro [31] (And.intro (by decide +kernel) ?_)
        refine st ?_
        refine Exists.intro [32] (And.intro (by decide +kernel) ?_)
        refine st ?_
        refine Exists.intro [33] (And.intro (by decide +kernel) ?_)
        obtain rfl := Zg Zfk
        refine st ?_
        exact wx (WS.mk (tc (tp (tp (tp (Zd (Zs (web (And.intro Zfb (And.intro Zi7 (And.intro ZjO (And.intro ZeN Zhm)))))) Zc))))) (Zf rfl (cc (cc (cc (cc Zh)))) (Zf rfl (cc (cc (cc (cc Zh)))) (Zf rfl (cc (cc (cc (cc Zh)))) Zb))))
       ·have Zfk := ife (And.intro Zfb (And.intro Zi7 (And.intro ZjO (And.intro ZeN Zhm)))) Zfk
        obtain ⟨r49, ZzR, Zfk⟩ := bind_some Zfk
        (conv => whnf)
        refine st ?_
        refine Exists.intro [29] (And.intro (by decide +kernel) ?_)
        refine st ?_
        refine Exists.intro [31] (And.intro (by decide +kernel) ?_)
        refine st ?_
        refine e3 ?_
        refine st ?_
        refine cm (Zk.weak (rn []) (ZfU r3 r4 _ ZzR) rfl (WS.mk (Zd (Zt (lc (lc (lc (lc Zo))))) (Zd (Zt (lc (lc (lc (lc Zo))))) Zc)) Zb)) ?_
        refine st ?_
        refine Exists.intro [32] (And.intro (by decide +kernel) ?_)
        refine st ?_
        refine Exists.intro [33] (And.intro (by decide +kernel) ?_)
        obtain rfl := Zg Zfk
        refine st ?_
        exact wx (WS.mk (tc (tp (tp (tp (Zd (Zs (web (And.intro Zfb (And.intro Zi7 (And.intro ZjO (And.intro ZeN Zhm)))))) Zc))))) (Zf rfl (cc (cc (cc (cc Zh)))) (Zf rfl (cc (cc (cc (cc Zh)))) (Zf rfl (cc (cc (cc (cc Zh)))) Zb))))
 obtain ⟨r0, hw⟩ := hw
 (conv => whnf)
 refine AWP.weak r0 hw ?_
 refine nw ?_
 refine Zj hF (fun Zia hF => ?_) (fun Zia hF => ?_)
 ·refine AWP.seq ?_
  obtain ⟨r58, ZGH, hF⟩ := bind_some hF
  refine ns ?_
  refine e3 ?_
  refine st ?_
  refine cm (Zk.weak (rn []) (Zd8 _ ZGH) rfl (WS.mk Zc Zb)) ?_
  refine st ?_
  obtain rfl := Zg hF
  refine ns ?_
  refine Exists.intro [] ?_
  refine st ?_
  exact wx (WS.mk (tc Zc) Zb)
 ·refine nw ?_
  refine AWP.seq ?_
  obtain ⟨r59, ZHx, hF⟩ := bind_some hF
  refine ns ?_
  refine e3 ?_
  refine st ?_
  refine cm (Zk.weak (rn []) (Zhe a b _ ZHx) rfl (WS.mk (Zd (Zt (lc (lc (lc (lc Zo))))) (Zd (Zt (lc (lc (lc (lc Zo))))) Zc)) Zb)) ?_
  refine st ?_
  refine AWP.seq ?_
  refine AWP.seq ?_
  refine ns ?_
  refine nw ?_
  refine Zj hF (fun Zob hF => ?_) (fun Zob hF => ?_)
  ·refine AWP.seq ?_
   obtain ⟨c65, ZnG, hF⟩ := bind_some hF
   refine AWP.cutN (fun T => ∃ r, WS r T ⟨[(6, .c none (.v (.bool c65)))], []⟩) ?_ (fun T hw => ?_)
   ·refine ns ?_
    refine Zl true (fun ZAi => ?_) (fun ZAi => ?_)
    ·have ZnG := ift ZAi ZnG
     obtain ⟨r64, ZGd, ZnG⟩ := bind_some ZnG
     (conv => whnf)
     refine st ?_
     refine e3 ?_
     refine st ?_
     refine cm (Zk.weak (rn []) (Zd8 _ ZGd) rfl (WS.mk Zc Zb)) ?_
     refine st ?_
     obtain rfl := Zg ZnG
     refine st ?_
     exact wx (WS.mk (Zd (Zs (web ZAi)) Zc) Zb)
    ·have ZnG := ife ZAi ZnG
     (conv => whnf)
     obtain rfl := Zg ZnG
     refine st ?_
     exact wx (WS.mk (Zd (Zs (web ZAi)) Zc) Zb)
   obtain ⟨r0, hw⟩ := hw
   (conv => whnf)
   refine AWP.weak r0 hw ?_
   obtain rfl := Zg hF
   refine ns ?_
   refine Exists.intro [] ?_
   refine st ?_
   exact wx (WS.mk (tc Zc) Zb)
  ·refine nw ?_
   refine AWP.seq ?_
   obtain ⟨r67, ZIq, hF⟩ := bind_some hF
   refine ns ?_
   refine e3 ?_
   refine st ?_
   refine cm (Zk.weak (rn []) (Zex r59.1 a _ ZIq) rfl (WS.mk (tc (Zd (Zt (lc (lc (lc (lc Zo))))) Zc)) Zb)) ?_
   refine st ?_
   refine AWP.seq ?_
   obtain ⟨c75, ZrL, hF⟩ := bind_some hF
   obtain ⟨c77, ZoE, hF⟩ := bind_some hF
   refine AWP.cutN (fun T => ∃ r, WS r T ⟨[(6, .c none (.v (.bool c77)))], []⟩) ?_ (fun T hw => ?_)
   ·refine nn ?_
    refine Or.inl (Or.inl (Exists.intro 8 (Exists.intro [[], [], [], [], [], [], [], []] (Exists.intro [([69, 70, 71, 72, 73, 74, 75, 76], [], []), ([70, 71, 72, 73, 74, 75, 76], [], []), ([71, 72, 73, 74, 75, 76], [], []), ([72, 73, 74, 75, 76], [], []), ([73, 74, 75, 76], [], []), ([73, 74, 75, 76], [], []), ([75, 76], [], []), ([73, 74, 75, 76], [], [])] (Exists.intro [69, 70, 71, 72, 73, 74, 75, 76] (And.intro (by decide +kernel) ?_))))))
    refine dp ?_
    refine dp ?_
    refine dp ?_
    refine dp ?_
    refine st ?_
    refine Zl false (fun Zs1 => ?_) (fun Zs1 => ?_)
    ·have ZrL := ift Zs1 ZrL
     (conv => whnf)
     obtain rfl := Zg ZrL
     have ZoE := ift Zs1 ZoE
     obtain ⟨r76, ZDR, ZoE⟩ := bind_some ZoE
     refine st ?_
     refine e3 ?_
     refine st ?_
     refine cm (Zk.weak (rn []) (Zd8 _ ZDR) rfl (WS.mk Zc Zb)) ?_
     refine st ?_
     obtain rfl := Zg ZoE
     refine st ?_
     exact wx (WS.mk (Zd (Zs (web Zs1)) Zc) Zb)
    ·have ZrL := ife Zs1 ZrL
     obtain ⟨r73, ZGY, ZrL⟩ := bind_some ZrL
     obtain ⟨r74, ZGU, ZrL⟩ := bind_some ZrL
     (conv => whnf)
     refine dp ?_
     refine dp ?_
     (refine st ?_; apply Exists.intro; apply Exists.intro; apply And.intro; (focus ((conv => whnf); refine Exists.intro [] ?_; (conv => whnf); refine And.intro rfl ?_; (conv => whnf); refine Zk.mono (Zk.weak (rn []) (Zex s r67 _ ZGY) rfl (WS.mk (tc (Zd (Zt (lc (lc (lc (lc Zo))))) Zc)) Zb)) ?_; rintro d b ⟨rfl, rfl⟩; exact And.intro rfl (And.intro rfl rfl))); apply And.intro; (focus exact rfl); (conv => whnf))
     refine dp ?_
     refine st ?_
     refine e3 ?_
     refine st ?_
     refine cm (Zk.weak (rn []) (ZfU r73 r3 _ ZGU) rfl (WS.mk (Zd (Zt (lc (lc (lc (lc Zo))))) (Zd (Zt (lc (lc (lc (lc Zo))))) Zc)) Zb)) ?_
     refine st ?_
     obtain rfl := Zg ZrL
     refine st ?_
     refine Zl true (fun ZAl => ?_) (fun ZAl => ?_)
     ·have ZoE := ift (And.intro Zs1 ZAl) ZoE
      obtain ⟨r76, ZDR, ZoE⟩ := bind_some ZoE
      (conv => whnf)
      refine st ?_
      refine e3 ?_
      refine st ?_
      refine cm (Zk.weak (rn []) (Zd8 _ ZDR) rfl (WS.mk Zc Zb)) ?_
      refine st ?_
      obtain rfl := Zg ZoE
      refine st ?_
      exact wx (WS.mk (Zd (Zs (web (And.intro Zs1 ZAl))) Zc) Zb)
     ·have ZoE := ife (And.intro Zs1 ZAl) ZoE
      (conv => whnf)
      obtain rfl := Zg ZoE
      refine st ?_
      exact wx (WS.mk (Zd (Zs (web (And.intro Zs1 ZAl))) Zc) Zb)
   obtain ⟨r0, hw⟩ := hw
   (conv => whnf)
   refine AWP.weak r0 hw ?_
   obtain rfl := Zg hF
   refine ns ?_
   refine Exists.intro [] ?_
   refine st ?_
   exact wx (WS.mk (tc Zc) Zb)

end Go.Proofs.YtgbglhbdjambbaaGreatDoor
