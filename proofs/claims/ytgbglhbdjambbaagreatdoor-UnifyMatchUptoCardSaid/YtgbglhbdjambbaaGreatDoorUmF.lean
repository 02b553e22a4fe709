/- Part 6 of the proof: the program's functions as Lean functions with their walks, and the plain law. It holds for every input, without conditions. -/
import Derived.Test.YtgbglhbdjambbaaGreatDoorUmA
import Derived.Test.YtgbglhbdjambbaaGreatDoorUmB
import Derived.Test.YtgbglhbdjambbaaGreatDoorUmC
import Derived.Test.YtgbglhbdjambbaaGreatDoorUmD
import Derived.Test.YtgbglhbdjambbaaGreatDoorUmE
set_option linter.unusedVariables false
set_option linter.unusedSimpArgs false
set_option maxRecDepth 100000
set_option maxHeartbeats 4000000
set_option synthInstance.maxHeartbeats 1000000
set_option synthInstance.maxSize 1000
namespace Go.Proofs.YtgbglhbdjambbaaGreatDoor
open Go Go.Am
mutual
def Zb9 (t : Za) : Option (Za) :=
 ZaH t.fBound >>= fun r1 =>
 ZaR t 0 r1 ([]) t.fKids
 partial_fixpoint
def ZaR (t : Za) (Zg8 : Nat) (r1 : (Zj)) (Zgh : (List Za)) (Zdj : (List Za)) : Option (Za) :=
 (match Zdj with
 | x60 :: ZDo =>
 Zb9 x60 >>= fun r69 =>
 ZV ((Zgh.length + ([r69]).length) * 72 ≤ 140737488355328) >>= fun _ =>
 ZaR t (Zg8 + 1) r1 (Zgh ++ ([r69])) ZDo
 | [] =>
 some (Za.mk t.fOp t.fName r1 Zgh))
 partial_fixpoint
end
def Zb9.M (t : Za) (r : Za) : Prop :=
 Zk Tryz.prog 95 [.agg [.v (.int .i64 t.fOp), .v (.string t.fName), .sl (t.fBound.fArgs.map Zj.cells), .sl (t.fKids.map Za.cells)]] [] (fun d b => d = .agg [.v (.int .i64 r.fOp), .v (.string r.fName), .sl (r.fBound.fArgs.map Zj.cells), .sl (r.fKids.map Za.cells)] ∧ b = [])
def ZaR.M (t : Za) (Zg8 : Nat) (r1 : (Zj)) (Zgh : (List Za)) (Zdj : (List Za)) (r : Za) : Prop :=
 ∀ Zex : List Za, t.fKids = Zex ++ Zdj → Zg8 = Zex.length → t.fKids.length ≤ maxLen → AWL Tryz.prog 28 (Code.sub (Zr Tryz.f95) [1, 1, 1, 1, 0, 1, 0, 0]) (Code.cont Tryz.prog 28 (Zr Tryz.f95) [1, 1, 1, 1, 0, 1, 0] (ZbV tab Tryz.f95.results (Zb0 (.agg [.v (.int .i64 r.fOp), .v (.string r.fName), .sl (r.fBound.fArgs.map Zj.cells), .sl (r.fKids.map Za.cells)]) []))) ⟨[(1, .ptr 1 0), (2, .ptr 2 0), (13, .c none (.sl (t.fKids.map Za.cells))), (14, .c none (.v (.int .i64 ((t.fKids.length : Nat) : Int)))), (15, .c none (.v (.int .i64 ((Zg8 : Nat) : Int))))], [(1, [(none, .v (.int .i64 t.fOp)), (none, .v (.string t.fName)), (none, .sl (r1.fArgs.map Zj.cells)), ((some (4053, 28)), .sl (Zgh.map Za.cells))]), (2, [(none, .v (.int .i64 0)), (none, .v (.string (ByteArray.mk #[]))), (none, .nils), (none, .nils)])]⟩
theorem Zo6 : (∀ (t : Za), ∀ r, Zb9 t = some r → Zb9.M t r) ∧ (∀ (t : Za) (Zg8 : Nat) (r1 : (Zj)) (Zgh : (List Za)) (Zdj : (List Za)), ∀ r, ZaR t Zg8 r1 Zgh Zdj = some r → ZaR.M t Zg8 r1 Zgh Zdj r) := by
 refine Zb9.mutual_partial_correctness Zb9.M ZaR.M ?_ ?_
 ·intro types_copied_l1' ZgD t r hF
  unfold Zb9.M
  refine en Tryz.func95 ?_
  refine AWP.seq ?_
  refine ns ?_
  refine AWP.seq ?_
  obtain ⟨r1, hr1, hF⟩ := bind_some hF
  refine ns ?_
  refine e3 ?_
  refine st ?_
  refine cm (Zk.weak (rn []) (Zm2 t.fBound _ hr1) rfl (WS.mk (Zd (Zp (lc Zn)) Zb) Zc)) ?_
  refine st ?_
  refine AWP.seq ?_
  refine ns ?_
  refine AWP.seq ?_
  refine ns ?_
  refine AWP.seq ?_
  refine AWP.seq ?_
  refine ns ?_
  intro hlen36
  (try rw [List.length_map] at hlen36)
  (try rw [List.length_map])
  refine st ?_
  refine AWP.block ?_
  refine AWP.loop ?_
  refine AWL.weak (rn []) ?_ (ZgD t 0 r1 ([]) t.fKids _ hF ([]) rfl rfl hlen36)
  exact (WS.mk (tp (tp (tc (tc (tc Zb))))) (Zf rfl (cc (cc (cc (Zj2 Zg)))) (Zf rfl (cc (cc (cc (cc Zg)))) Zc)))
 ·intro types_copied' types_copied_l1' ZpP ZgD t Zg8 r1 Zgh Zdj r hF
  unfold ZaR.M
  intro Zex Zjz ZjC hlen36
  refine AWL.step ?_
  refine AWP.seq ?_
  refine ns ?_
  refine AWP.seq ?_
  refine nw ?_
  refine ZF Zjz ZjC (fun x60 ZDo ZCc ZGT ZHc => ?_) (fun ZCc => ?_)
  ·subst ZCc
   refine nw ?_
   refine AWP.seq ?_
   refine AWP.block ?_
   refine AWP.seq ?_
   refine nn ?_
   refine sr (ZX (f := Za.cells) (Za.cells_eq x60) ZGT) ?_
   refine st ?_
   obtain ⟨r69, ZBy, hF⟩ := bind_some hF
   obtain ⟨ZHt, hF⟩ := Zv hF
   refine nn ?_
   refine Or.inl (Or.inl (Exists.intro 5 (Exists.intro [[], [], [], [], []] (Exists.intro [([19, 20, 21, 22, 23], [], []), ([20, 21, 22, 23], [], []), ([19, 20, 21, 22, 23], [], []), ([19, 20, 22, 23], [], []), ([19, 20, 23], [], [])] (Exists.intro [19, 20, 21, 22, 23] (And.intro (by decide +kernel) ?_))))))
   refine dp ?_
   refine dp ?_
   refine dp ?_
   (refine st ?_; apply Exists.intro; apply Exists.intro; apply And.intro; (focus ((conv => whnf); refine Exists.intro [] ?_; (conv => whnf); refine And.intro rfl ?_; (conv => whnf); refine Zk.mono (Zk.weak (rn []) (ZpP x60 _ ZBy) rfl (WS.mk (Zd (Zp (lc (lc (lc (lc Zn))))) Zb) Zc)) ?_; rintro d b ⟨rfl, rfl⟩; exact And.intro rfl (And.intro rfl rfl))); apply And.intro; (focus exact rfl); (conv => whnf))
   refine de (Zcb (f := Za.cells) (ZdW (Za.cells_eq r69) (lc (lc (lc (lc Zn))))) (Zap (f := Za.cells))) ?_
   refine sa (fun l => ZbH l (fun x => Za.cells_len x)) ZHt ?_
   refine Exists.intro _ (And.intro (WE.refl _) ?_)
   rw [← List.map_append]
   refine st ?_
   refine ns ?_
   refine AWL.weak (rn [(24, 4053)]) ?_ (ZgD t (Zg8 + 1) r1 (Zgh ++ ([r69])) ZDo _ hF (Zex ++ [x60]) (by rw [Zjz]; simp) (by rw [ZjC]; simp) hlen36)
   exact (WS.mk (tp (tp (tc (tc (Zd (Zq (Zc0 (ZP hlen36 ZHc))) Zb))))) (Zf rfl (cc (cc (cc (ZgC rfl (WE.refl _) Zg)))) (Zf rfl (cc (cc (cc (cc Zg)))) Zc)))
  ·subst ZCc
   refine nw ?_
   refine AWP.seq ?_
   refine ns ?_
   obtain rfl := Zh hF
   refine ns ?_
   refine Exists.intro [] ?_
   refine st ?_
   exact wx (WS.mk (Zd (Zp (lc (lc (lc (lc Zn))))) Zb) Zc)
theorem ZpV : ∀ (t : Za), ∀ r, Zb9 t = some r → Zb9.M t r := Zo6.1

def Za8 (t : Za) (s : Zs) : Option (Za) :=
 some t
def Za8.M (t : Za) (s : Zs) (r : Za) : Prop :=
 AWP Tryz.prog 30 (Code.sub (Zr Tryz.f52) [1, 1]) (Code.cont Tryz.prog 30 (Zr Tryz.f52) [1, 1] (ZbV tab Tryz.f52.results (Zb0 (.agg [.v (.int .i64 r.fOp), .v (.string r.fName), .sl (r.fBound.fArgs.map Zj.cells), .sl (r.fKids.map Za.cells)]) [(1000, [(none, .rs 1001 s.flist.length), (none, .rf 1002)]), (1001, [(none, .ob 90 (s.flist.map Ze.cells))]), (1002, [(none, .ob 109 (s.fat.map (Zdx c_S Zbn)))])]))) ⟨[(3, .ptr 3 0), (4, .ptr 4 0)], [(3, [(none, .v (.int .i64 t.fOp)), (none, .v (.string t.fName)), (none, .sl (t.fBound.fArgs.map Zj.cells)), (none, .sl (t.fKids.map Za.cells))]), (4, [(none, .v (.int .i64 0)), (none, .v (.string (ByteArray.mk #[]))), (none, .nils), (none, .nils)]), (1000, [(none, .rs 1001 s.flist.length), (none, .rf 1002)]), (1001, [(none, .ob 90 (s.flist.map Ze.cells))]), (1002, [(none, .ob 109 (s.fat.map (Zdx c_S Zbn)))])]⟩
theorem Zft (t : Za) (s : Zs) (r : Za) (hF : Za8 t s = some r) : Za8.M t s r := by
 unfold Za8 at hF
 unfold Za8.M
 refine AWP.seq ?_
 refine ns ?_
 obtain rfl := Zh hF
 refine ns ?_
 refine Exists.intro [(1000, 1000), (1001, 1001), (1002, 1002)] ?_
 refine st ?_
 exact wx (WS.mk (Zd (Zp (lc (lc (lc (lc Zn))))) Zb) (Zf rfl (Zet (Z2 (by first | exact rfl | simp only [List.length_set])) (cc Zg)) (Zf rfl (cc Zg) (Zf rfl (cc Zg) Zc))))

def ZaD (s : Zs) (t : Za) : Option (Za) :=
 if (t.fOp == 1) = true then
 Zeg s.fat 0 t.fName >>= fun r8 =>
 if r8.2 = true then
 (ixI s.flist r8.1) >>= fun x10 =>
 some x10.fType
 else
 Za8 t s
 else
 Za8 t s
def ZaD.M (s : Zs) (t : Za) (r : Za) : Prop :=
 Zk Tryz.prog 52 [.ptr 1000 0, .agg [.v (.int .i64 t.fOp), .v (.string t.fName), .sl (t.fBound.fArgs.map Zj.cells), .sl (t.fKids.map Za.cells)]] [(1000, [(none, .rs 1001 s.flist.length), (none, .rf 1002)]), (1001, [(none, .ob 90 (s.flist.map Ze.cells))]), (1002, [(none, .ob 109 (s.fat.map (Zdx c_S Zbn)))])] (fun d b => d = .agg [.v (.int .i64 r.fOp), .v (.string r.fName), .sl (r.fBound.fArgs.map Zj.cells), .sl (r.fKids.map Za.cells)] ∧ b = [(1000, [(none, .rs 1001 s.flist.length), (none, .rf 1002)]), (1001, [(none, .ob 90 (s.flist.map Ze.cells))]), (1002, [(none, .ob 109 (s.fat.map (Zdx c_S Zbn)))])])
theorem Zgb (s : Zs) (t : Za) (r : Za) (hF : ZaD s t = some r) : ZaD.M s t r := by
 unfold ZaD at hF
 unfold ZaD.M
 refine en Tryz.func52 ?_
 refine AWP.seq ?_
 refine ns ?_
 refine AWP.seq ?_
 refine AWP.seq ?_
 refine ns ?_
 refine nw ?_
 refine Zi hF (fun hc6 hF => ?_) (fun hc6 hF => ?_)
 ·refine AWP.seq ?_
  obtain ⟨r8, hr8, hF⟩ := bind_some hF
  refine nn ?_
  refine Or.inl (Or.inl (Exists.intro 11 (Exists.intro [[], [], [], [], [], [], [], [], [], [], []] (Exists.intro [([11, 12, 13, 14, 15, 16, 17, 10, 18, 19, 5], [], []), ([12, 13, 14, 15, 16, 17, 10, 18, 19, 5], [], []), ([13, 14, 15, 16, 17, 10, 18, 19, 5], [], []), ([14, 15, 16, 17, 10, 18, 19, 5], [], []), ([11, 12, 13, 14, 15, 16, 17, 10, 18, 19, 5], [], []), ([11, 12, 13, 14, 16, 17, 10, 18, 19, 5], [], []), ([17, 10, 18, 19, 5], [], []), ([10, 18, 19, 5], [], []), ([18, 19, 5], [], []), ([18, 19, 5], [], []), ([19, 5], [], [])] (Exists.intro [11, 12, 13, 14, 15, 16, 17, 10, 18, 19, 5] (And.intro (by decide +kernel) ?_))))))
  refine dp ?_
  refine dp ?_
  refine dp ?_
  refine dp ?_
  refine dp ?_
  refine dp ?_
  (refine st ?_; apply Exists.intro; apply Exists.intro; apply And.intro; (focus (((repeat (first | ((conv => whnf); (with_reducible refine And.intro ?_ ?_); (focus (first | exact Eq.refl _ | exact trivial | (with_reducible assumption) | (with_reducible exact Int.natCast_nonneg _) | exact Nat.le_of_ble_eq_true (Eq.refl true) | exact Zdy (Eq.refl _) (Eq.refl _) (Eq.refl _) | decide))))); (conv => whnf)) <;> (refine Zge (m := s.fat) (k := t.fName) ZfO (ev := Zbn) hr8 rfl (fun x => ZjE x) rfl rfl (lc Zn) ?_) <;> ((repeat (first | ((conv => whnf); (with_reducible refine And.intro ?_ ?_); (focus (first | exact Eq.refl _ | exact trivial | (with_reducible assumption) | (with_reducible exact Int.natCast_nonneg _) | exact Nat.le_of_ble_eq_true (Eq.refl true) | exact Zdy (Eq.refl _) (Eq.refl _) (Eq.refl _) | decide))))); (conv => whnf)) <;> (exact rfl))); apply And.intro; (focus exact rfl); (conv => whnf))
  refine dp ?_
  refine dp ?_
  refine dp ?_
  refine dp ?_
  refine st ?_
  refine AWP.seq ?_
  refine ns ?_
  refine nw ?_
  refine Zi hF (fun hc9 hF => ?_) (fun hc9 hF => ?_)
  ·refine AWP.seq ?_
   obtain ⟨x10, ZES, ZD0, hF⟩ := Zd6 hF
   refine ns ?_
   refine And.intro (ZrR ZES ZD0) ?_
   refine st ?_
   refine sr (Zdi (f := Ze.cells) (Ze.cells_eq x10) ZD0) ?_
   refine st ?_
   obtain rfl := Zh hF
   refine ns ?_
   refine Exists.intro [(1000, 1000), (1001, 1001), (1002, 1002)] ?_
   refine st ?_
   exact wx (WS.mk (Zd (Zp (lc (lc (lc (lc Zn))))) Zb) (Zf rfl (Zet (Z2 (by first | exact rfl | simp only [List.length_set])) (cc Zg)) (Zf rfl (cc Zg) (Zf rfl (cc Zg) Zc))))
  ·refine nw ?_
   refine AWP.weak (rn []) ?_ (Zft t s _ hF)
   exact (WS.mk (tp (tp Zb)) (Zf rfl (cc (cc (cc (cc Zg)))) (Zf rfl (cc (cc (cc (cc Zg)))) (Zf rfl (Zet (Z2 (by first | exact rfl | simp only [List.length_set])) (cc Zg)) (Zf rfl (cc Zg) (Zf rfl (cc Zg) Zc))))))
 ·refine nw ?_
  refine AWP.weak (rn []) ?_ (Zft t s _ hF)
  exact (WS.mk (tp (tp Zb)) (Zf rfl (cc (cc (cc (cc Zg)))) (Zf rfl (cc (cc (cc (cc Zg)))) (Zf rfl (Zet (Z2 (by first | exact rfl | simp only [List.length_set])) (cc Zg)) (Zf rfl (cc Zg) (Zf rfl (cc Zg) Zc))))))

def Zau (s : (List ByteArray)) (v : ByteArray) (x_8 : Nat) (ZaJ : (List ByteArray)) : Option (Int) :=
 (match ZaJ with
 | x11 :: ZkM =>
 if (v.toList == x11.toList) = true then
 some ((x_8 : Nat) : Int)
 else
 Zau s v (x_8 + 1) ZkM
 | [] =>
 some (-1))
 partial_fixpoint
def Zau.M (s : (List ByteArray)) (v : ByteArray) (x_8 : Nat) (ZaJ : (List ByteArray)) (r : Int) : Prop :=
 ∀ Zdc : List ByteArray, s = Zdc ++ ZaJ → x_8 = Zdc.length → s.length ≤ maxLen → AWL Tryz.prog 19 (Code.sub (Zr Tryz.f123) [1, 0, 1, 0, 0]) (Code.cont Tryz.prog 19 (Zr Tryz.f123) [1, 0, 1, 0] (ZbV tab Tryz.f123.results (Zb0 (.c none (.v (.int .i64 r))) []))) ⟨[(0, .c none (.sl (s.map c_S))), (1, .c none (.v (.string v))), (7, .c none (.v (.int .i64 ((s.length : Nat) : Int)))), (8, .c none (.v (.int .i64 ((x_8 : Nat) : Int))))], []⟩
theorem Zjo (s : (List ByteArray)) (v : ByteArray) (x_8 : Nat) (ZaJ : (List ByteArray)) : ∀ r, Zau s v x_8 ZaJ = some r → Zau.M s v x_8 ZaJ r := by
 refine Zau.partial_correctness s v (fun x_8 ZaJ r => Zau.M s v x_8 ZaJ r) ?_ x_8 ZaJ
 intro slices_Index_string_l1' ZfL x_8 ZaJ r hF
 have Zjh := fun (_s : (List ByteArray)) (_v : ByteArray) (x_8 : Nat) (ZaJ : (List ByteArray)) => ZfL x_8 ZaJ
 clear ZfL
 unfold Zau.M
 intro Zdc Zht Zg4 hlen1
 refine AWL.step ?_
 refine AWP.seq ?_
 refine ns ?_
 refine AWP.seq ?_
 refine nw ?_
 refine ZF Zht Zg4 (fun x11 ZkM ZkR Zq2 ZtH => ?_) (fun ZkR => ?_)
 ·subst ZkR
  refine nw ?_
  refine AWP.seq ?_
  refine AWP.block ?_
  refine AWP.seq ?_
  refine ns ?_
  refine AWP.seq ?_
  refine nn ?_
  refine sr (ZX (f := c_S) rfl Zq2) ?_
  refine st ?_
  refine nw ?_
  refine Zi hF (fun Zc8 hF => ?_) (fun Zc8 hF => ?_)
  ·refine AWP.seq ?_
   refine ns ?_
   obtain rfl := Zh hF
   refine ns ?_
   refine Exists.intro [] ?_
   refine st ?_
   exact wx (WS.mk (tc Zb) Zc)
  ·refine nw ?_
   refine ns ?_
   refine AWL.weak (rn []) ?_ (Zjh s v (x_8 + 1) ZkM _ hF (Zdc ++ [x11]) (by rw [Zht]; simp) (by rw [Zg4]; simp) hlen1)
   exact (WS.mk (tc (tc (tc (Zd (Zq (Zc0 (ZP hlen1 ZtH))) Zb)))) Zc)
 ·subst ZkR
  refine nw ?_
  refine AWP.seq ?_
  refine ns ?_
  obtain rfl := Zh hF
  refine ns ?_
  refine Exists.intro [] ?_
  refine st ?_
  exact wx (WS.mk (tc Zb) Zc)

def ZcU (s : (List ByteArray)) (v : ByteArray) : Option (Int) :=
 Zau s v 0 s
def ZcU.M (s : (List ByteArray)) (v : ByteArray) (r : Int) : Prop :=
 Zk Tryz.prog 123 [.c none (.sl (s.map c_S)), .c none (.v (.string v))] [] (fun d b => d = .c none (.v (.int .i64 r)) ∧ b = [])
theorem Zkv (s : (List ByteArray)) (v : ByteArray) (r : Int) (hF : ZcU s v = some r) : ZcU.M s v r := by
 unfold ZcU at hF
 unfold ZcU.M
 refine en Tryz.func123 ?_
 refine AWP.seq ?_
 refine ns ?_
 refine AWP.seq ?_
 refine AWP.seq ?_
 refine ns ?_
 intro hlen1
 (try rw [List.length_map] at hlen1)
 (try rw [List.length_map])
 refine st ?_
 refine AWP.block ?_
 refine AWP.loop ?_
 refine AWL.weak (rn []) ?_ (Zjo s v 0 s _ hF ([]) rfl rfl hlen1)
 exact (WS.mk (tc (tc (tc (tc Zb)))) Zc)

def Zam (s : (List ByteArray)) (v : ByteArray) : Option (Bool) :=
 ZcU s v >>= fun r1 =>
 some (decide (r1 ≥ 0))
def Zam.M (s : (List ByteArray)) (v : ByteArray) (r : Bool) : Prop :=
 Zk Tryz.prog 97 [.c none (.sl (s.map c_S)), .c none (.v (.string v))] [] (fun d b => d = .c none (.v (.bool r)) ∧ b = [])
theorem Zes (s : (List ByteArray)) (v : ByteArray) (r : Bool) (hF : Zam s v = some r) : Zam.M s v r := by
 unfold Zam at hF
 unfold Zam.M
 refine en Tryz.func97 ?_
 refine AWP.seq ?_
 refine ns ?_
 refine AWP.seq ?_
 obtain ⟨r1, hr1, hF⟩ := bind_some hF
 refine ns ?_
 refine e3 ?_
 refine st ?_
 refine cm (Zk.weak (rn []) (Zkv s v _ hr1) rfl (WS.mk (tc (tc Zb)) Zc)) ?_
 refine st ?_
 obtain rfl := Zh hF
 refine ns ?_
 refine Exists.intro [] ?_
 refine st ?_
 exact wx (WS.mk (tc Zb) Zc)

mutual
def ZcV (l : (List ByteArray)) (Z4 : (List ByteArray)) (t : Za) : Option ((List ByteArray)) :=
 if (t.fOp == 1) = true then
 Zam Z4 t.fName >>= fun r27 =>
 (if (!r27) = true then Zam l t.fName >>= fun r28 =>
 some (!r28) else some false) >>= fun c29 =>
 if c29 = true then
 ZV ((l.length + ([t.fName]).length) * 16 ≤ 140737488355328) >>= fun _ =>
 ZbF (l ++ ([t.fName])) Z4 t
 else
 ZbF l Z4 t
 else
 if (t.fOp == 4) = true then
 Zdm Z4 >>= fun r36 =>
 ZV ((r36.length + ([t.fName]).length) * 16 ≤ 140737488355328) >>= fun _ =>
 ZbF l (r36 ++ ([t.fName])) t
 else
 ZbF l Z4 t
 partial_fixpoint
def ZbF (l_0 : (List ByteArray)) (ZM : (List ByteArray)) (t : Za) : Option ((List ByteArray)) :=
 ZbD l_0 ZM t 0 t.fKids
 partial_fixpoint
def ZbD (l_0 : (List ByteArray)) (ZM : (List ByteArray)) (t : Za) (Znk : Nat) (ZkD : (List Za)) : Option ((List ByteArray)) :=
 (match ZkD with
 | x22 :: Zvh =>
 ZcV l_0 ZM x22 >>= fun r25 =>
 ZbD r25 ZM t (Znk + 1) Zvh
 | [] =>
 some l_0)
 partial_fixpoint
end
def ZcV.M (l : (List ByteArray)) (Z4 : (List ByteArray)) (t : Za) (r : (List ByteArray)) : Prop :=
 Zk Tryz.prog 96 [.c (some (0, 9)) (.sl (l.map c_S)), .c none (.sl (Z4.map c_S)), .agg [.v (.int .i64 t.fOp), .v (.string t.fName), .sl (t.fBound.fArgs.map Zj.cells), .sl (t.fKids.map Za.cells)]] [] (fun d b => d = .c (some (0, 9)) (.sl (r.map c_S)) ∧ b = [])
def ZbF.M (l_0 : (List ByteArray)) (ZM : (List ByteArray)) (t : Za) (r : (List ByteArray)) : Prop :=
 AWP Tryz.prog 51 (Code.sub (Zr Tryz.f96) [1, 1]) (Code.cont Tryz.prog 51 (Zr Tryz.f96) [1, 1] (ZbV tab Tryz.f96.results (Zb0 (.c (some (0, 9)) (.sl (r.map c_S))) []))) ⟨[(0, .c (some (0, 9)) (.sl (l_0.map c_S))), (1, .c none (.sl (ZM.map c_S))), (5, .ptr 5 0)], [(5, [(none, .v (.int .i64 t.fOp)), (none, .v (.string t.fName)), (none, .sl (t.fBound.fArgs.map Zj.cells)), (none, .sl (t.fKids.map Za.cells))])]⟩
def ZbD.M (l_0 : (List ByteArray)) (ZM : (List ByteArray)) (t : Za) (Znk : Nat) (ZkD : (List Za)) (r : (List ByteArray)) : Prop :=
 ∀ ZoE : List Za, t.fKids = ZoE ++ ZkD → Znk = ZoE.length → t.fKids.length ≤ maxLen → AWL Tryz.prog 51 (Code.sub (Zr Tryz.f96) [1, 1, 0, 1, 0, 0]) (Code.cont Tryz.prog 51 (Zr Tryz.f96) [1, 1, 0, 1, 0] (ZbV tab Tryz.f96.results (Zb0 (.c (some (0, 9)) (.sl (r.map c_S))) []))) ⟨[(0, .c (some (0, 9)) (.sl (l_0.map c_S))), (1, .c none (.sl (ZM.map c_S))), (39, .c none (.sl (t.fKids.map Za.cells))), (40, .c none (.v (.int .i64 ((t.fKids.length : Nat) : Int)))), (41, .c none (.v (.int .i64 ((Znk : Nat) : Int))))], []⟩
theorem Zqv : (∀ (l : (List ByteArray)) (Z4 : (List ByteArray)) (t : Za), ∀ r, ZcV l Z4 t = some r → ZcV.M l Z4 t r) ∧ (∀ (l_0 : (List ByteArray)) (ZM : (List ByteArray)) (t : Za), ∀ r, ZbF l_0 ZM t = some r → ZbF.M l_0 ZM t r) ∧ (∀ (l_0 : (List ByteArray)) (ZM : (List ByteArray)) (t : Za) (Znk : Nat) (ZkD : (List Za)), ∀ r, ZbD l_0 ZM t Znk ZkD = some r → ZbD.M l_0 ZM t Znk ZkD r) := by
 refine ZcV.mutual_partial_correctness ZcV.M ZbF.M ZbD.M ?_ ?_ ?_
 ·intro types_free_k1' ZfS l Z4 t r hF
  unfold ZcV.M
  refine en Tryz.func96 ?_
  refine AWP.seq ?_
  refine ns ?_
  refine AWP.seq ?_
  refine AWP.seq ?_
  refine ns ?_
  refine AWP.block ?_
  refine AWP.seq ?_
  refine ns ?_
  refine nw ?_
  refine Zi hF (fun ZfB hF => ?_) (fun ZfB hF => ?_)
  ·refine AWP.seq ?_
   obtain ⟨r27, ZB1, hF⟩ := bind_some hF
   obtain ⟨c29, Znf, hF⟩ := bind_some hF
   refine AWP.cutN (fun T => ∃ r, WS r T ⟨[(0, .c (some (0, 9)) (.sl (l.map c_S))), (1, .c none (.sl (Z4.map c_S))), (5, .ptr 5 0), (24, .c none (.v (.bool c29)))], [(5, [(none, .v (.int .i64 t.fOp)), (none, .v (.string t.fName)), (none, .sl (t.fBound.fArgs.map Zj.cells)), (none, .sl (t.fKids.map Za.cells))])]⟩) ?_ (fun T hw => ?_)
   ·refine ns ?_
    refine e3 ?_
    refine st ?_
    refine cm (Zk.weak (rn []) (Zes Z4 t.fName _ ZB1) rfl (WS.mk (tc (tc Zb)) Zc)) ?_
    refine st ?_
    refine Zl true (fun Zmt => ?_) (fun Zmt => ?_)
    ·have Znf := ift Zmt Znf
     obtain ⟨r28, Zz0, Znf⟩ := bind_some Znf
     (conv => whnf)
     refine st ?_
     refine Exists.intro [0] (Exists.intro [] (Exists.intro [] ?_))
     refine st ?_
     refine cm (Zk.weak (rn []) (Zes l t.fName _ Zz0) rfl (WS.mk (tc (tc Zb)) Zc)) ?_
     refine st ?_
     obtain rfl := Zh Znf
     refine st ?_
     exact Exists.intro (rn [(0, 0)]) (WS.mk (Zd (ZaC rfl (WE.refl _)) (tc (tp (Zd (Zq (web Zmt)) Zb)))) (Zf rfl (cc (cc (cc (cc Zg)))) Zc))
    ·have Znf := ife Zmt Znf
     (conv => whnf)
     obtain rfl := Zh Znf
     refine st ?_
     exact Exists.intro (rn [(0, 0)]) (WS.mk (Zd (ZaC rfl (WE.refl _)) (tc (tp (Zd (Zq (web Zmt)) Zb)))) (Zf rfl (cc (cc (cc (cc Zg)))) Zc))
   obtain ⟨r0, hw⟩ := hw
   (conv => whnf)
   refine AWP.weak r0 hw ?_
   refine nw ?_
   refine Zi hF (fun Zu4 hF => ?_) (fun Zu4 hF => ?_)
   ·obtain ⟨ZCQ, hF⟩ := Zv hF
    refine ns ?_
    refine Exists.intro _ (And.intro (Zcb (f := c_S) (lc Zn) (Zap (f := c_S))) ?_)
    refine sa (fun l => ZbH l (fun x => Zfv x)) ZCQ ?_
    refine Exists.intro _ (And.intro (WE.refl _) ?_)
    rw [← List.map_append]
    refine st ?_
    refine AWP.weak (rn [(29, 0)]) ?_ (ZfS (l ++ ([t.fName])) Z4 t _ hF)
    exact (WS.mk (Zd (ZaC rfl (WE.refl _)) (tc (tp Zb))) (Zf rfl (cc (cc (cc (cc Zg)))) Zc))
   ·refine nw ?_
    refine AWP.weak (rn [(0, 0)]) ?_ (ZfS l Z4 t _ hF)
    exact (WS.mk (Zd (ZaC rfl (WE.refl _)) (tc (tp Zb))) (Zf rfl (cc (cc (cc (cc Zg)))) Zc))
  ·refine AWP.seq ?_
   refine ns ?_
   refine nw ?_
   refine Zi hF (fun ZoO hF => ?_) (fun ZoO hF => ?_)
   ·obtain ⟨r36, ZHa, hF⟩ := bind_some hF
    obtain ⟨ZFK, hF⟩ := Zv hF
    refine nn ?_
    refine Or.inl (Or.inr (Exists.intro [2, 3, 4] (Exists.intro [[34, 35, 36], [35, 36], [36]] (Exists.intro [5] (Exists.intro [5, 34, 35, 36] (Exists.intro [34, 35, 36] (Exists.intro [0, 1, 5, 6] (And.intro (by decide +kernel) ?_))))))))
    refine dp ?_
    refine dp ?_
    refine de (Zcb (f := c_S) (lc Zn) (Zap (f := c_S))) ?_
    refine st ?_
    refine e3 ?_
    refine st ?_
    refine cm (Zk.weak (rn []) (ZkX Z4 _ ZHa) rfl (WS.mk (tc Zb) Zc)) ?_
    refine st ?_
    refine sa (fun l => ZbH l (fun x => Zfv x)) ZFK ?_
    refine Exists.intro _ (And.intro (WE.refl _) ?_)
    rw [← List.map_append]
    refine st ?_
    refine AWP.weak (rn [(0, 0)]) ?_ (ZfS l (r36 ++ ([t.fName])) t _ hF)
    exact (WS.mk (Zd (ZaC rfl (WE.refl _)) (tc (tp Zb))) (Zf rfl (cc (cc (cc (cc Zg)))) Zc))
   ·refine nw ?_
    refine AWP.weak (rn [(0, 0)]) ?_ (ZfS l Z4 t _ hF)
    exact (WS.mk (Zd (ZaC rfl (WE.refl _)) (tc (tp Zb))) (Zf rfl (cc (cc (cc (cc Zg)))) Zc))
 ·intro types_free_l2' ZhF l_0 ZM t r hF
  unfold ZbF.M
  refine AWP.seq ?_
  refine AWP.seq ?_
  refine ns ?_
  intro hlen12
  (try rw [List.length_map] at hlen12)
  (try rw [List.length_map])
  refine st ?_
  refine AWP.block ?_
  refine AWP.loop ?_
  refine AWL.weak (rn [(0, 0)]) ?_ (ZhF l_0 ZM t 0 t.fKids _ hF ([]) rfl rfl hlen12)
  exact (WS.mk (Zd (ZaC rfl (WE.refl _)) (tc (tc (tc (tc Zb))))) Zc)
 ·intro types_free' types_free_l2' Zr2 ZhF l_0 ZM t Znk ZkD r hF
  unfold ZbD.M
  intro ZoE ZwJ Zwy hlen12
  refine AWL.step ?_
  refine AWP.seq ?_
  refine ns ?_
  refine AWP.seq ?_
  refine nw ?_
  refine ZF ZwJ Zwy (fun x22 Zvh ZvO ZxA ZDr => ?_) (fun ZvO => ?_)
  ·subst ZvO
   refine nw ?_
   refine AWP.seq ?_
   refine AWP.block ?_
   refine AWP.seq ?_
   refine nn ?_
   refine sr (ZX (f := Za.cells) (Za.cells_eq x22) ZxA) ?_
   refine st ?_
   obtain ⟨r25, Zyh, hF⟩ := bind_some hF
   refine ns ?_
   refine e3 ?_
   refine st ?_
   refine cm (Zk.weak (rn [(0, 0)]) (Zr2 l_0 ZM x22 _ Zyh) rfl (WS.mk (Zd (ZaC rfl (WE.refl _)) (tc (Zd (Zp (lc (lc (lc (lc Zn))))) Zb))) Zc)) ?_
   refine st ?_
   refine ns ?_
   refine AWL.weak (rn [(48, 0)]) ?_ (ZhF r25 ZM t (Znk + 1) Zvh _ hF (ZoE ++ [x22]) (by rw [ZwJ]; simp) (by rw [Zwy]; simp) hlen12)
   exact (WS.mk (Zd (ZaC rfl (WE.refl _)) (tc (tc (tc (Zd (Zq (Zc0 (ZP hlen12 ZDr))) Zb))))) Zc)
  ·subst ZvO
   refine nw ?_
   refine AWP.seq ?_
   refine ns ?_
   obtain rfl := Zh hF
   refine ns ?_
   refine Exists.intro [] ?_
   refine st ?_
   exact Exists.intro (rn [(0, 0)]) (WS.mk (Zd (ZaC rfl (WE.refl _)) Zb) Zc)
theorem ZjY : ∀ (l : (List ByteArray)) (Z4 : (List ByteArray)) (t : Za), ∀ r, ZcV l Z4 t = some r → ZcV.M l Z4 t r := Zqv.1

def ZeL (t : Za) : Option ((List ByteArray)) :=
 Zbt t >>= fun r3 =>
 if (r3 != 0) = true then
 some ([] : List ByteArray)
 else
 ZcV ([] : List ByteArray) ([] : List ByteArray) t >>= fun r5 =>
 some r5
def ZeL.M (t : Za) (r : (List ByteArray)) : Prop :=
 Zk Tryz.prog 105 [.agg [.v (.int .i64 t.fOp), .v (.string t.fName), .sl (t.fBound.fArgs.map Zj.cells), .sl (t.fKids.map Za.cells)]] [] (fun d b => d = .c (some (0, 9)) (.sl (r.map c_S)) ∧ b = [])
theorem Znq (t : Za) (r : (List ByteArray)) (hF : ZeL t = some r) : ZeL.M t r := by
 unfold ZeL at hF
 unfold ZeL.M
 refine en Tryz.func105 ?_
 refine AWP.seq ?_
 refine ns ?_
 refine AWP.seq ?_
 refine AWP.seq ?_
 obtain ⟨r3, hr3, hF⟩ := bind_some hF
 refine ns ?_
 refine e3 ?_
 refine st ?_
 refine cm (Zk.weak (rn []) (ZdJ t _ hr3) rfl (WS.mk (Zd (Zp (lc (lc (lc (lc Zn))))) Zb) Zc)) ?_
 refine st ?_
 refine nw ?_
 refine Zi hF (fun hc4 hF => ?_) (fun hc4 hF => ?_)
 ·refine AWP.seq ?_
  refine ns ?_
  obtain rfl := Zh hF
  refine ns ?_
  refine Exists.intro [] ?_
  refine st ?_
  exact wx (WS.mk (Zd ZjS Zb) Zc)
 ·refine nw ?_
  refine AWP.seq ?_
  obtain ⟨r5, hr5, hF⟩ := bind_some hF
  refine ns ?_
  refine e3 ?_
  refine st ?_
  refine cm (Zk.weak (rn []) (ZjY ([] : List ByteArray) ([] : List ByteArray) t _ hr5) rfl (WS.mk (Zd ZjS (Zd (Zq WE.nil) (Zd (Zp (lc (lc (lc (lc Zn))))) Zb))) Zc)) ?_
  refine st ?_
  obtain rfl := Zh hF
  refine ns ?_
  refine Exists.intro [] ?_
  refine st ?_
  exact Exists.intro (rn [(7, 0)]) (WS.mk (Zd (ZaC rfl (WE.refl _)) Zb) Zc)

def Zav (v : ByteArray) (r1 : ((List ByteArray))) (ZnU : Nat) (s : Zs) (Zgt : (List ByteArray)) : Option (Bool) :=
 (match Zgt with
 | x26 :: ZBq =>
 if (x26.toList == v.toList) = true then
 some true
 else
 Zeg s.fat 0 x26 >>= fun r31 =>
 (if r31.2 = true then (ixI s.flist r31.1) >>= fun x32 =>
 ZeL x32.fType >>= fun r33 =>
 Zam r33 v >>= fun r34 =>
 some r34 else some false) >>= fun c35 =>
 if c35 = true then
 some true
 else
 Zav v r1 (ZnU + 1) s ZBq
 | [] =>
 some false)
 partial_fixpoint
def Zav.M (v : ByteArray) (r1 : ((List ByteArray))) (ZnU : Nat) (s : Zs) (Zgt : (List ByteArray)) (r : Bool) : Prop :=
 ∀ ZoJ : List ByteArray, r1 = ZoJ ++ Zgt → ZnU = ZoJ.length → r1.length ≤ maxLen → AWL Tryz.prog 45 (Code.sub (Zr Tryz.f80) [1, 0, 1, 0, 0]) (Code.cont Tryz.prog 45 (Zr Tryz.f80) [1, 0, 1, 0] (ZbV tab Tryz.f80.results (Zb0 (.c none (.v (.bool r))) [(1000, [(none, .rs 1001 s.flist.length), (none, .rf 1002)]), (1001, [(none, .ob 90 (s.flist.map Ze.cells))]), (1002, [(none, .ob 109 (s.fat.map (Zdx c_S Zbn)))])]))) ⟨[(0, .ptr 1000 0), (1, .c none (.v (.string v))), (12, .c (some (12, 9)) (.sl (r1.map c_S))), (13, .c none (.v (.int .i64 ((r1.length : Nat) : Int)))), (14, .c none (.v (.int .i64 ((ZnU : Nat) : Int))))], [(1000, [(none, .rs 1001 s.flist.length), (none, .rf 1002)]), (1001, [(none, .ob 90 (s.flist.map Ze.cells))]), (1002, [(none, .ob 109 (s.fat.map (Zdx c_S Zbn)))])]⟩
theorem Zjm (v : ByteArray) (r1 : ((List ByteArray))) (ZnU : Nat) (s : Zs) (Zgt : (List ByteArray)) : ∀ r, Zav v r1 ZnU s Zgt = some r → Zav.M v r1 ZnU s Zgt r := by
 refine Zav.partial_correctness v r1 s (fun ZnU Zgt r => Zav.M v r1 ZnU s Zgt r) ?_ ZnU Zgt
 intro unify_solver_occurs_l1' ZfF ZnU Zgt r hF
 have Zjp := fun (_v : ByteArray) (_r1 : ((List ByteArray))) (ZnU : Nat) (_s : Zs) (Zgt : (List ByteArray)) => ZfF ZnU Zgt
 clear ZfF
 unfold Zav.M
 intro ZoJ Zw5 ZwF hlen2
 refine AWL.step ?_
 refine AWP.seq ?_
 refine ns ?_
 refine AWP.seq ?_
 refine nw ?_
 refine ZF Zw5 ZwF (fun x26 ZBq ZCq ZF9 ZGu => ?_) (fun ZCq => ?_)
 ·subst ZCq
  refine nw ?_
  refine AWP.seq ?_
  refine AWP.block ?_
  refine AWP.seq ?_
  refine nn ?_
  refine sr (ZX (f := c_S) rfl ZF9) ?_
  refine st ?_
  refine AWP.seq ?_
  refine AWP.seq ?_
  refine ns ?_
  refine nw ?_
  refine Zi hF (fun Zmt hF => ?_) (fun Zmt hF => ?_)
  ·refine AWP.seq ?_
   refine ns ?_
   obtain rfl := Zh hF
   refine ns ?_
   refine Exists.intro [(1000, 1000), (1001, 1001), (1002, 1002)] ?_
   refine st ?_
   exact wx (WS.mk (tc Zb) (Zf rfl (Zet (Z2 (by first | exact rfl | simp only [List.length_set])) (cc Zg)) (Zf rfl (cc Zg) (Zf rfl (cc Zg) Zc))))
  ·refine nw ?_
   refine AWP.seq ?_
   obtain ⟨r31, ZCm, hF⟩ := bind_some hF
   refine ns ?_
   refine Zge (m := s.fat) (k := x26) ZfO (ev := Zbn) ZCm rfl (fun x => ZjE x) rfl rfl (lc Zn) ?_
   refine st ?_
   refine AWP.seq ?_
   obtain ⟨c35, ZmW, hF⟩ := bind_some hF
   refine AWP.cutN (fun T => ∃ r, WS r T ⟨[(0, .ptr 1000 0), (1, .c none (.v (.string v))), (12, .c (some (12, 9)) (.sl (r1.map c_S))), (13, .c none (.v (.int .i64 ((r1.length : Nat) : Int)))), (14, .c none (.v (.int .i64 ((ZnU : Nat) : Int)))), (43, .c none (.v (.bool c35)))], [(1000, [(none, .rs 1001 s.flist.length), (none, .rf 1002)]), (1001, [(none, .ob 90 (s.flist.map Ze.cells))]), (1002, [(none, .ob 109 (s.fat.map (Zdx c_S Zbn)))])]⟩) ?_ (fun T hw => ?_)
   ·refine ns ?_
    refine Zl true (fun Zkf => ?_) (fun Zkf => ?_)
    ·have ZmW := ift Zkf ZmW
     obtain ⟨x32, ZBe, ZAi, ZmW⟩ := Zd6 ZmW
     obtain ⟨r33, ZBF, ZmW⟩ := bind_some ZmW
     obtain ⟨r34, ZCj, ZmW⟩ := bind_some ZmW
     (conv => whnf)
     refine st ?_
     refine And.intro (ZrR ZBe ZAi) ?_
     refine st ?_
     refine sr (Zdi (f := Ze.cells) (Ze.cells_eq x32) ZAi) ?_
     refine st ?_
     refine e3 ?_
     refine st ?_
     refine cm (Zk.weak (rn []) (Znq x32.fType _ ZBF) rfl (WS.mk (Zd (Zp (lc (lc (lc (lc Zn))))) Zb) Zc)) ?_
     refine st ?_
     refine Exists.intro [40] (Exists.intro [] (Exists.intro [] ?_))
     refine st ?_
     refine cm (Zk.weak (rn []) (Zes r33 v _ ZCj) rfl (WS.mk (tc (tc Zb)) Zc)) ?_
     refine st ?_
     obtain rfl := Zh ZmW
     refine st ?_
     exact Exists.intro (rn [(12, 12)]) (WS.mk (tp (tc (Zd (ZaC rfl (WE.refl _)) (tc (tc (Zd (Zq (web Zkf)) Zb)))))) (Zf rfl (Zet (Z2 (by first | exact rfl | simp only [List.length_set])) (cc Zg)) (Zf rfl (cc Zg) (Zf rfl (cc Zg) Zc))))
    ·have ZmW := ife Zkf ZmW
     (conv => whnf)
     obtain rfl := Zh ZmW
     refine st ?_
     exact Exists.intro (rn [(12, 12)]) (WS.mk (tp (tc (Zd (ZaC rfl (WE.refl _)) (tc (tc (Zd (Zq (web Zkf)) Zb)))))) (Zf rfl (Zet (Z2 (by first | exact rfl | simp only [List.length_set])) (cc Zg)) (Zf rfl (cc Zg) (Zf rfl (cc Zg) Zc))))
   obtain ⟨r0, hw⟩ := hw
   (conv => whnf)
   refine AWP.weak r0 hw ?_
   refine nw ?_
   refine Zi hF (fun ZoN hF => ?_) (fun ZoN hF => ?_)
   ·refine AWP.seq ?_
    refine ns ?_
    obtain rfl := Zh hF
    refine ns ?_
    refine Exists.intro [(1000, 1000), (1001, 1001), (1002, 1002)] ?_
    refine st ?_
    exact wx (WS.mk (tc Zb) (Zf rfl (Zet (Z2 (by first | exact rfl | simp only [List.length_set])) (cc Zg)) (Zf rfl (cc Zg) (Zf rfl (cc Zg) Zc))))
   ·refine nw ?_
    refine ns ?_
    refine AWL.weak (rn [(12, 12)]) ?_ (Zjp v r1 (ZnU + 1) s ZBq _ hF (ZoJ ++ [x26]) (by rw [Zw5]; simp) (by rw [ZwF]; simp) hlen2)
    exact (WS.mk (tp (tc (Zd (ZaC rfl (WE.refl _)) (tc (Zd (Zq (Zc0 (ZP hlen2 ZGu))) Zb))))) (Zf rfl (Zet (Z2 (by first | exact rfl | simp only [List.length_set])) (cc Zg)) (Zf rfl (cc Zg) (Zf rfl (cc Zg) Zc))))
 ·subst ZCq
  refine nw ?_
  refine AWP.seq ?_
  refine ns ?_
  obtain rfl := Zh hF
  refine ns ?_
  refine Exists.intro [(1000, 1000), (1001, 1001), (1002, 1002)] ?_
  refine st ?_
  exact wx (WS.mk (tc Zb) (Zf rfl (Zet (Z2 (by first | exact rfl | simp only [List.length_set])) (cc Zg)) (Zf rfl (cc Zg) (Zf rfl (cc Zg) Zc))))

def Zcp (s : Zs) (v : ByteArray) (t : Za) : Option (Bool) :=
 ZeL t >>= fun r1 =>
 Zav v r1 0 s r1
def Zcp.M (s : Zs) (v : ByteArray) (t : Za) (r : Bool) : Prop :=
 Zk Tryz.prog 80 [.ptr 1000 0, .c none (.v (.string v)), .agg [.v (.int .i64 t.fOp), .v (.string t.fName), .sl (t.fBound.fArgs.map Zj.cells), .sl (t.fKids.map Za.cells)]] [(1000, [(none, .rs 1001 s.flist.length), (none, .rf 1002)]), (1001, [(none, .ob 90 (s.flist.map Ze.cells))]), (1002, [(none, .ob 109 (s.fat.map (Zdx c_S Zbn)))])] (fun d b => d = .c none (.v (.bool r)) ∧ b = [(1000, [(none, .rs 1001 s.flist.length), (none, .rf 1002)]), (1001, [(none, .ob 90 (s.flist.map Ze.cells))]), (1002, [(none, .ob 109 (s.fat.map (Zdx c_S Zbn)))])])
theorem ZkT (s : Zs) (v : ByteArray) (t : Za) (r : Bool) (hF : Zcp s v t = some r) : Zcp.M s v t r := by
 unfold Zcp at hF
 unfold Zcp.M
 refine en Tryz.func80 ?_
 refine AWP.seq ?_
 refine ns ?_
 refine AWP.seq ?_
 refine AWP.seq ?_
 obtain ⟨r1, hr1, hF⟩ := bind_some hF
 refine ns ?_
 refine e3 ?_
 refine st ?_
 refine cm (Zk.weak (rn []) (Znq t _ hr1) rfl (WS.mk (Zd (Zp (lc (lc (lc (lc Zn))))) Zb) Zc)) ?_
 refine st ?_
 intro hlen2
 (try rw [List.length_map] at hlen2)
 (try rw [List.length_map])
 refine st ?_
 refine AWP.block ?_
 refine AWP.loop ?_
 refine AWL.weak (rn [(12, 12)]) ?_ (Zjm v r1 0 s r1 _ hF ([]) rfl rfl hlen2)
 exact (WS.mk (tp (tc (Zd (ZaC rfl (WE.refl _)) (tc (tc Zb))))) (Zf rfl (Zet (Z2 (by first | exact rfl | simp only [List.length_set])) (cc Zg)) (Zf rfl (cc Zg) (Zf rfl (cc Zg) Zc))))

def Zbu (l : (List ByteArray)) (s : ByteArray) (i_5 : Nat) (Zat : (List ByteArray)) : Option (Bool) :=
 (match Zat with
 | x16 :: ZiV =>
 if (x16.toList == s.toList) = true then
 some true
 else
 Zbu l s (i_5 + 1) ZiV
 | [] =>
 some false)
 partial_fixpoint
def Zbu.M (l : (List ByteArray)) (s : ByteArray) (i_5 : Nat) (Zat : (List ByteArray)) (r : Bool) : Prop :=
 ∀ Zda : List ByteArray, l = Zda ++ Zat → i_5 = Zda.length → AWL Tryz.prog 18 (Code.sub (Zr Tryz.f60) [1, 0, 1, 0, 0]) (Code.cont Tryz.prog 18 (Zr Tryz.f60) [1, 0, 1, 0] (ZbV tab Tryz.f60.results (Zb0 (.c none (.v (.bool r))) []))) ⟨[(0, .c none (.sl (l.map c_S))), (1, .c none (.v (.string s))), (5, .c none (.v (.int .i64 ((i_5 : Nat) : Int))))], []⟩
theorem ZlU (l : (List ByteArray)) (s : ByteArray) (i_5 : Nat) (Zat : (List ByteArray)) : ∀ r, Zbu l s i_5 Zat = some r → Zbu.M l s i_5 Zat r := by
 refine Zbu.partial_correctness l s (fun i_5 Zat r => Zbu.M l s i_5 Zat r) ?_ i_5 Zat
 intro lazycref01_Has_l1' Zhy i_5 Zat r hF
 have Zmz := fun (_l : (List ByteArray)) (_s : ByteArray) (i_5 : Nat) (Zat : (List ByteArray)) => Zhy i_5 Zat
 clear Zhy
 unfold Zbu.M
 intro Zda Zhc Zhn
 refine AWL.step ?_
 refine AWP.seq ?_
 refine AWP.seq ?_
 refine ns ?_
 intro hlen15
 (try rw [List.length_map] at hlen15)
 (try rw [List.length_map])
 refine st ?_
 refine nw ?_
 refine ZF Zhc Zhn (fun x16 ZiV Zjf Zp0 ZrK => ?_) (fun Zjf => ?_)
 ·subst Zjf
  refine nw ?_
  refine AWP.seq ?_
  refine AWP.block ?_
  refine AWP.seq ?_
  refine nn ?_
  refine sr (ZX (f := c_S) rfl Zp0) ?_
  refine st ?_
  refine nw ?_
  refine Zi hF (fun ZkO hF => ?_) (fun ZkO hF => ?_)
  ·refine AWP.seq ?_
   refine ns ?_
   obtain rfl := Zh hF
   refine ns ?_
   refine Exists.intro [] ?_
   refine st ?_
   exact wx (WS.mk (tc Zb) Zc)
  ·refine nw ?_
   refine ns ?_
   refine AWL.weak (rn []) ?_ (Zmz l s (i_5 + 1) ZiV _ hF (Zda ++ [x16]) (by rw [Zhc]; simp) (by rw [Zhn]; simp))
   exact (WS.mk (tc (tc (Zd (Zq (Zc0 (ZP hlen15 ZrK))) Zb))) Zc)
 ·subst Zjf
  refine nw ?_
  refine AWP.seq ?_
  refine ns ?_
  obtain rfl := Zh hF
  refine ns ?_
  refine Exists.intro [] ?_
  refine st ?_
  exact wx (WS.mk (tc Zb) Zc)

def Zch (l : (List ByteArray)) (s : ByteArray) : Option (Bool) :=
 Zbu l s 0 l
def Zch.M (l : (List ByteArray)) (s : ByteArray) (r : Bool) : Prop :=
 Zk Tryz.prog 60 [.c none (.sl (l.map c_S)), .c none (.v (.string s))] [] (fun d b => d = .c none (.v (.bool r)) ∧ b = [])
theorem Zew (l : (List ByteArray)) (s : ByteArray) (r : Bool) (hF : Zch l s = some r) : Zch.M l s r := by
 unfold Zch at hF
 unfold Zch.M
 refine en Tryz.func60 ?_
 refine AWP.seq ?_
 refine ns ?_
 refine AWP.seq ?_
 refine AWP.seq ?_
 refine ns ?_
 refine AWP.block ?_
 refine AWP.loop ?_
 refine AWL.weak (rn []) ?_ (ZlU l s 0 l _ hF ([]) rfl rfl)
 exact (WS.mk (tc (tc (tc Zb))) Zc)

def ZdA (l : (List ByteArray)) (s : ByteArray) : Option ((List ByteArray)) :=
 Zch l s >>= fun r3 =>
 if r3 = true then
 some l
 else
 ZV ((l.length + ([s]).length) * 16 ≤ 140737488355328) >>= fun _ =>
 some (l ++ ([s]))
def ZdA.M (l : (List ByteArray)) (s : ByteArray) (r : (List ByteArray)) : Prop :=
 Zk Tryz.prog 67 [.c (some (0, 9)) (.sl (l.map c_S)), .c none (.v (.string s))] [] (fun d b => d = .c (some (0, 9)) (.sl (r.map c_S)) ∧ b = [])
theorem ZlB (l : (List ByteArray)) (s : ByteArray) (r : (List ByteArray)) (hF : ZdA l s = some r) : ZdA.M l s r := by
 unfold ZdA at hF
 unfold ZdA.M
 refine en Tryz.func67 ?_
 refine AWP.seq ?_
 refine ns ?_
 refine AWP.seq ?_
 refine AWP.seq ?_
 obtain ⟨r3, hr3, hF⟩ := bind_some hF
 refine ns ?_
 refine Exists.intro [0] (Exists.intro [] (Exists.intro [] ?_))
 refine st ?_
 refine cm (Zk.weak (rn []) (Zew l s _ hr3) rfl (WS.mk (tc (tc Zb)) Zc)) ?_
 refine st ?_
 refine nw ?_
 refine Zi hF (fun hc4 hF => ?_) (fun hc4 hF => ?_)
 ·refine AWP.seq ?_
  refine ns ?_
  obtain rfl := Zh hF
  refine ns ?_
  refine Exists.intro [] ?_
  refine st ?_
  exact Exists.intro (rn [(0, 0)]) (WS.mk (Zd (ZaC rfl (WE.refl _)) Zb) Zc)
 ·refine nw ?_
  refine AWP.seq ?_
  obtain ⟨hg5, hF⟩ := Zv hF
  refine ns ?_
  refine Exists.intro _ (And.intro (Zcb (f := c_S) (lc Zn) (Zap (f := c_S))) ?_)
  refine sa (fun l => ZbH l (fun x => Zfv x)) hg5 ?_
  refine Exists.intro _ (And.intro (WE.refl _) ?_)
  rw [← List.map_append]
  refine st ?_
  obtain rfl := Zh hF
  refine ns ?_
  refine Exists.intro [] ?_
  refine st ?_
  exact Exists.intro (rn [(12, 0)]) (WS.mk (Zd (ZaC rfl (WE.refl _)) Zb) Zc)

mutual
def Zbh (out : (List ByteArray)) (Z4 : (List ByteArray)) (t : Za) : Option ((List ByteArray)) :=
 (if (t.fOp == 1) = true then Zch Z4 t.fName >>= fun r5 =>
 some (!r5) else some false) >>= fun c6 =>
 if c6 = true then
 ZdA out t.fName >>= fun r9 =>
 some r9
 else
 if (t.fOp == 4) = true then
 ZV ((0 + Z4.length) * 16 ≤ 140737488355328) >>= fun _ =>
 ZV ((Z4.length + ([t.fName]).length) * 16 ≤ 140737488355328) >>= fun _ =>
 Zcs out (Z4 ++ ([t.fName])) t
 else
 Zcs out Z4 t
 partial_fixpoint
def Zcs (out : (List ByteArray)) (ZM : (List ByteArray)) (t : Za) : Option ((List ByteArray)) :=
 Zcw out ZM 0 t t.fKids
 partial_fixpoint
def Zcw (Zov : (List ByteArray)) (ZM : (List ByteArray)) (i_8 : Nat) (t : Za) (ZnJ : (List Za)) : Option ((List ByteArray)) :=
 (match ZnJ with
 | x28 :: ZCr =>
 Zbh Zov ZM x28 >>= fun r31 =>
 Zcw r31 ZM (i_8 + 1) t ZCr
 | [] =>
 some Zov)
 partial_fixpoint
end
def Zbh.M (out : (List ByteArray)) (Z4 : (List ByteArray)) (t : Za) (r : (List ByteArray)) : Prop :=
 Zk Tryz.prog 41 [.c (some (0, 9)) (.sl (out.map c_S)), .c none (.sl (Z4.map c_S)), .agg [.v (.int .i64 t.fOp), .v (.string t.fName), .sl (t.fBound.fArgs.map Zj.cells), .sl (t.fKids.map Za.cells)]] [] (fun d b => d = .c (some (0, 9)) (.sl (r.map c_S)) ∧ b = [])
def Zcs.M (out : (List ByteArray)) (ZM : (List ByteArray)) (t : Za) (r : (List ByteArray)) : Prop :=
 AWP Tryz.prog 51 (Code.sub (Zr Tryz.f41) [1, 1, 1]) (Code.cont Tryz.prog 51 (Zr Tryz.f41) [1, 1, 1] (ZbV tab Tryz.f41.results (Zb0 (.c (some (0, 9)) (.sl (r.map c_S))) []))) ⟨[(0, .c (some (0, 9)) (.sl (out.map c_S))), (1, .c none (.sl (ZM.map c_S))), (5, .ptr 5 0)], [(5, [(none, .v (.int .i64 t.fOp)), (none, .v (.string t.fName)), (none, .sl (t.fBound.fArgs.map Zj.cells)), (none, .sl (t.fKids.map Za.cells))])]⟩
def Zcw.M (Zov : (List ByteArray)) (ZM : (List ByteArray)) (i_8 : Nat) (t : Za) (ZnJ : (List Za)) (r : (List ByteArray)) : Prop :=
 ∀ Zqd : List Za, t.fKids = Zqd ++ ZnJ → i_8 = Zqd.length → AWL Tryz.prog 51 (Code.sub (Zr Tryz.f41) [1, 1, 1, 0, 1, 0, 0]) (Code.cont Tryz.prog 51 (Zr Tryz.f41) [1, 1, 1, 0, 1, 0] (ZbV tab Tryz.f41.results (Zb0 (.c (some (0, 9)) (.sl (r.map c_S))) []))) ⟨[(0, .c (some (0, 9)) (.sl (Zov.map c_S))), (1, .c none (.sl (ZM.map c_S))), (5, .ptr 5 0), (8, .c none (.v (.int .i64 ((i_8 : Nat) : Int))))], [(5, [(none, .v (.int .i64 t.fOp)), (none, .v (.string t.fName)), (none, .sl (t.fBound.fArgs.map Zj.cells)), (none, .sl (t.fKids.map Za.cells))])]⟩
theorem Zkw : (∀ (out : (List ByteArray)) (Z4 : (List ByteArray)) (t : Za), ∀ r, Zbh out Z4 t = some r → Zbh.M out Z4 t r) ∧ (∀ (out : (List ByteArray)) (ZM : (List ByteArray)) (t : Za), ∀ r, Zcs out ZM t = some r → Zcs.M out ZM t r) ∧ (∀ (Zov : (List ByteArray)) (ZM : (List ByteArray)) (i_8 : Nat) (t : Za) (ZnJ : (List Za)), ∀ r, Zcw Zov ZM i_8 t ZnJ = some r → Zcw.M Zov ZM i_8 t ZnJ r) := by
 refine Zbh.mutual_partial_correctness Zbh.M Zcs.M Zcw.M ?_ ?_ ?_
 ·intro lazycref04_Collect_k1' Zgr out Z4 t r hF
  unfold Zbh.M
  refine en Tryz.func41 ?_
  refine AWP.seq ?_
  refine ns ?_
  refine AWP.seq ?_
  refine AWP.seq ?_
  obtain ⟨c6, hc6, hF⟩ := bind_some hF
  refine AWP.cutN (fun T => ∃ r, WS r T ⟨[(0, .c (some (0, 9)) (.sl (out.map c_S))), (1, .c none (.sl (Z4.map c_S))), (5, .ptr 5 0), (18, .c none (.v (.bool c6)))], [(5, [(none, .v (.int .i64 t.fOp)), (none, .v (.string t.fName)), (none, .sl (t.fBound.fArgs.map Zj.cells)), (none, .sl (t.fKids.map Za.cells))])]⟩) ?_ (fun T hw => ?_)
  ·refine ns ?_
   refine Zl true (fun hc7 => ?_) (fun hc7 => ?_)
   ·have hc6 := ift hc7 hc6
    obtain ⟨r5, hr5, hc6⟩ := bind_some hc6
    (conv => whnf)
    refine st ?_
    refine e3 ?_
    refine st ?_
    refine cm (Zk.weak (rn []) (Zew Z4 t.fName _ hr5) rfl (WS.mk (tc (tc Zb)) Zc)) ?_
    refine st ?_
    obtain rfl := Zh hc6
    refine st ?_
    exact Exists.intro (rn [(0, 0)]) (WS.mk (Zd (ZaC rfl (WE.refl _)) (tc (tp (Zd (Zq (web hc7)) Zb)))) (Zf rfl (cc (cc (cc (cc Zg)))) Zc))
   ·have hc6 := ife hc7 hc6
    (conv => whnf)
    obtain rfl := Zh hc6
    refine st ?_
    exact Exists.intro (rn [(0, 0)]) (WS.mk (Zd (ZaC rfl (WE.refl _)) (tc (tp (Zd (Zq (web hc7)) Zb)))) (Zf rfl (cc (cc (cc (cc Zg)))) Zc))
  obtain ⟨r0, hw⟩ := hw
  (conv => whnf)
  refine AWP.weak r0 hw ?_
  refine nw ?_
  refine Zi hF (fun hc8 hF => ?_) (fun hc8 hF => ?_)
  ·refine AWP.seq ?_
   obtain ⟨r9, hr9, hF⟩ := bind_some hF
   refine ns ?_
   refine e3 ?_
   refine st ?_
   refine cm (Zk.weak (rn [(0, 0)]) (ZlB out t.fName _ hr9) rfl (WS.mk (Zd (ZaC rfl (WE.refl _)) (tc Zb)) Zc)) ?_
   refine st ?_
   obtain rfl := Zh hF
   refine ns ?_
   refine Exists.intro [] ?_
   refine st ?_
   exact Exists.intro (rn [(22, 0)]) (WS.mk (Zd (ZaC rfl (WE.refl _)) Zb) Zc)
  ·refine nw ?_
   refine AWP.seq ?_
   refine AWP.seq ?_
   refine ns ?_
   refine nw ?_
   refine Zi hF (fun Zm1 hF => ?_) (fun Zm1 hF => ?_)
   ·refine AWP.seq ?_
    refine ns ?_
    refine AWP.seq ?_
    obtain ⟨ZGn, hF⟩ := Zv hF
    refine nn ?_
    refine sa (fun l => ZbH l (fun x => Zfv x)) ZGn ?_
    refine Exists.intro _ (And.intro (WE.refl _) ?_)
    (try rw [List.nil_append])
    refine st ?_
    refine AWP.seq ?_
    obtain ⟨ZGN, hF⟩ := Zv hF
    refine ns ?_
    refine Exists.intro _ (And.intro (Zcb (f := c_S) (lc Zn) (Zap (f := c_S))) ?_)
    refine sa (fun l => ZbH l (fun x => Zfv x)) ZGN ?_
    refine Exists.intro _ (And.intro (WE.refl _) ?_)
    rw [← List.map_append]
    refine st ?_
    refine ns ?_
    refine AWP.weak (rn [(0, 0)]) ?_ (Zgr out (Z4 ++ ([t.fName])) t _ hF)
    exact (WS.mk (Zd (ZaC rfl (WE.refl _)) (tc (tp Zb))) (Zf rfl (cc (cc (cc (cc Zg)))) Zc))
   ·refine nw ?_
    refine AWP.weak (rn [(0, 0)]) ?_ (Zgr out Z4 t _ hF)
    exact (WS.mk (Zd (ZaC rfl (WE.refl _)) (tc (tp Zb))) (Zf rfl (cc (cc (cc (cc Zg)))) Zc))
 ·intro lazycref04_Collect_l2' ZeI out ZM t r hF
  unfold Zcs.M
  refine AWP.seq ?_
  refine AWP.seq ?_
  refine ns ?_
  refine AWP.block ?_
  refine AWP.loop ?_
  refine AWL.weak (rn [(0, 0)]) ?_ (ZeI out ZM 0 t t.fKids _ hF ([]) rfl rfl)
  exact (WS.mk (Zd (ZaC rfl (WE.refl _)) (tc (tp (tc Zb)))) (Zf rfl (cc (cc (cc (cc Zg)))) Zc))
 ·intro lazycref04_Collect' lazycref04_Collect_l2' ZlJ ZeI Zov ZM i_8 t ZnJ r hF
  unfold Zcw.M
  intro Zqd Zy0 Zzc
  refine AWL.step ?_
  refine AWP.seq ?_
  refine AWP.seq ?_
  refine ns ?_
  intro hlen27
  (try rw [List.length_map] at hlen27)
  (try rw [List.length_map])
  refine st ?_
  refine nw ?_
  refine ZF Zy0 Zzc (fun x28 ZCr ZCH ZHD ZHp => ?_) (fun ZCH => ?_)
  ·subst ZCH
   refine nw ?_
   refine AWP.seq ?_
   refine AWP.block ?_
   obtain ⟨r31, ZCm, hF⟩ := bind_some hF
   refine nn ?_
   refine sr (ZX (f := Za.cells) (Za.cells_eq x28) ZHD) ?_
   refine st ?_
   refine e3 ?_
   refine st ?_
   refine cm (Zk.weak (rn [(0, 0)]) (ZlJ Zov ZM x28 _ ZCm) rfl (WS.mk (Zd (ZaC rfl (WE.refl _)) (tc (Zd (Zp (lc (lc (lc (lc Zn))))) Zb))) Zc)) ?_
   refine st ?_
   refine ns ?_
   refine AWL.weak (rn [(49, 0)]) ?_ (ZeI r31 ZM (i_8 + 1) t ZCr _ hF (Zqd ++ [x28]) (by rw [Zy0]; simp) (by rw [Zzc]; simp))
   exact (WS.mk (Zd (ZaC rfl (WE.refl _)) (tc (tp (Zd (Zq (Zc0 (ZP hlen27 ZHp))) Zb)))) (Zf rfl (cc (cc (cc (cc Zg)))) Zc))
  ·subst ZCH
   refine nw ?_
   refine AWP.seq ?_
   refine ns ?_
   obtain rfl := Zh hF
   refine ns ?_
   refine Exists.intro [] ?_
   refine st ?_
   exact Exists.intro (rn [(0, 0)]) (WS.mk (Zd (ZaC rfl (WE.refl _)) Zb) Zc)
theorem ZhB : ∀ (out : (List ByteArray)) (Z4 : (List ByteArray)) (t : Za), ∀ r, Zbh out Z4 t = some r → Zbh.M out Z4 t r := Zkw.1

mutual
def ZbG (sub : (List (ByteArray × Za))) (t : Za) : Option (Int × Int) :=
 Zeg sub (Za.mk 0 (ByteArray.mk #[]) (Zj.mk ([] : List Zj)) ([] : List Za)) t.fName >>= fun r7 =>
 if (r7.2 && (t.fOp == 1)) = true then
 Zcv r7.1 >>= fun r12 =>
 Zb3 r7.1 >>= fun r13 =>
 some (r12, r13)
 else
 Zeg sub (Za.mk 0 (ByteArray.mk #[]) (Zj.mk ([] : List Zj)) ([] : List Za)) t.fName >>= fun r16 =>
 if (r16.2 && (t.fOp == 4)) = true then
 none
 else
 Zaa 0 0 t 0 sub t.fKids
 partial_fixpoint
def Zaa (ZdB : Int) (Zcx : Int) (t : Za) (ZnQ : Nat) (sub : (List (ByteArray × Za))) (ZfT : (List Za)) : Option (Int × Int) :=
 (match ZfT with
 | x42 :: ZBz =>
 ZbG sub x42 >>= fun r45 =>
 Zaa (IntKind.i64.wrap (ZdB + r45.1)) (if r45.2 > Zcx then r45.2 else Zcx) t (ZnQ + 1) sub ZBz
 | [] =>
 some (IntKind.i64.wrap (ZdB + 1), IntKind.i64.wrap (Zcx + 1)))
 partial_fixpoint
end
def ZbG.M (sub : (List (ByteArray × Za))) (t : Za) (r : Int × Int) : Prop :=
 Zk Tryz.prog 69 [.c none (.rf 1000), .agg [.v (.int .i64 t.fOp), .v (.string t.fName), .sl (t.fBound.fArgs.map Zj.cells), .sl (t.fKids.map Za.cells)]] [(1000, [(none, .ob 183 (sub.map (Zdx c_S Za.cells)))])] (fun d b => d = .tup [.c (.v (.int .i64 r.1)), .c (.v (.int .i64 r.2))] ∧ b = [(1000, [(none, .ob 183 (sub.map (Zdx c_S Za.cells)))])])
def Zaa.M (ZdB : Int) (Zcx : Int) (t : Za) (ZnQ : Nat) (sub : (List (ByteArray × Za))) (ZfT : (List Za)) (r : Int × Int) : Prop :=
 ∀ Zof : List Za, t.fKids = Zof ++ ZfT → ZnQ = Zof.length → t.fKids.length ≤ maxLen → AWL Tryz.prog 72 (Code.sub (Zr Tryz.f69) [1, 1, 1, 0, 1, 0, 0]) (Code.cont Tryz.prog 72 (Zr Tryz.f69) [1, 1, 1, 0, 1, 0] (ZbV tab Tryz.f69.results (Zb0 (.tup [.c (.v (.int .i64 r.1)), .c (.v (.int .i64 r.2))]) [(1000, [(none, .ob 183 (sub.map (Zdx c_S Za.cells)))])]))) ⟨[(0, .c none (.rf 1000)), (4, .c none (.v (.int .i64 ZdB))), (5, .c none (.v (.int .i64 Zcx))), (49, .c none (.sl (t.fKids.map Za.cells))), (50, .c none (.v (.int .i64 ((t.fKids.length : Nat) : Int)))), (51, .c none (.v (.int .i64 ((ZnQ : Nat) : Int))))], [(1000, [(none, .ob 183 (sub.map (Zdx c_S Za.cells)))])]⟩
theorem ZoK (sub : (List (ByteArray × Za))) : (∀ (t : Za), ∀ r, ZbG sub t = some r → ZbG.M sub t r) ∧ (∀ (ZdB : Int) (Zcx : Int) (t : Za) (ZnQ : Nat) (ZfT : (List Za)), ∀ r, Zaa ZdB Zcx t ZnQ sub ZfT = some r → Zaa.M ZdB Zcx t ZnQ sub ZfT r) := by
 refine ZbG.mutual_partial_correctness sub (fun t r => ZbG.M sub t r) (fun ZdB Zcx t ZnQ ZfT r => Zaa.M ZdB Zcx t ZnQ sub ZfT r) ?_ ?_
 ·intro types_measure_l1' ZdI t r hF
  have Zf4 := fun (ZdB : Int) (Zcx : Int) (t : Za) (ZnQ : Nat) (_sub : (List (ByteArray × Za))) (ZfT : (List Za)) => ZdI ZdB Zcx t ZnQ ZfT
  clear ZdI
  unfold ZbG.M
  refine en Tryz.func69 ?_
  refine AWP.seq ?_
  refine ns ?_
  refine AWP.seq ?_
  refine AWP.seq ?_
  obtain ⟨r7, hr7, hF⟩ := bind_some hF
  refine ns ?_
  refine Zge (m := sub) (k := t.fName) ZfO (ev := Za.cells) hr7 (Za.cells_eq r7.1) (fun x => Za.cells_len x) rfl rfl (ZdW (Za.cells_eq (Za.mk 0 (ByteArray.mk #[]) (Zj.mk ([] : List Zj)) ([] : List Za))) (lc (lc (ZaE WE.nil (ZaE WE.nil Zn))))) ?_
  refine st ?_
  refine AWP.seq ?_
  refine AWP.cutN (fun T => ∃ r, WS r T ⟨[(0, .c none (.rf 1000)), (3, .ptr 3 0), (4, .c none (.v (.int .i64 0))), (5, .c none (.v (.int .i64 0))), (6, .ptr 6 0), (26, .c none (.v (.bool (r7.2 && (t.fOp == 1)))))], [(3, [(none, .v (.int .i64 t.fOp)), (none, .v (.string t.fName)), (none, .sl (t.fBound.fArgs.map Zj.cells)), (none, .sl (t.fKids.map Za.cells))]), (6, [(none, .v (.int .i64 r7.1.fOp)), (none, .v (.string r7.1.fName)), (none, .sl (r7.1.fBound.fArgs.map Zj.cells)), (none, .sl (r7.1.fKids.map Za.cells))]), (1000, [(none, .ob 183 (sub.map (Zdx c_S Za.cells)))])]⟩) ?_ (fun T hw => ?_)
  ·refine ns ?_
   refine Zl true (fun hc8 => ?_) (fun hc8 => ?_)
   ·(conv => whnf)
    refine st ?_
    exact wx (WS.mk (tc (tp (tc (tc (tp (Zd (Zq (web hc8)) Zb)))))) (Zf rfl (cc (cc (cc (cc Zg)))) (Zf rfl (cc (cc (cc (cc Zg)))) (Zf rfl (cc Zg) Zc))))
   ·(conv => whnf)
    refine st ?_
    exact wx (WS.mk (tc (tp (tc (tc (tp (Zd (Zq (web hc8)) Zb)))))) (Zf rfl (cc (cc (cc (cc Zg)))) (Zf rfl (cc (cc (cc (cc Zg)))) (Zf rfl (cc Zg) Zc))))
  obtain ⟨r0, hw⟩ := hw
  (conv => whnf)
  refine AWP.weak r0 hw ?_
  refine nw ?_
  refine Zi hF (fun hc9 hF => ?_) (fun hc9 hF => ?_)
  ·refine AWP.seq ?_
   obtain ⟨r12, ZuY, hF⟩ := bind_some hF
   obtain ⟨r13, ZHg, hF⟩ := bind_some hF
   refine nn ?_
   refine Or.inl (Or.inr (Exists.intro [2] (Exists.intro [[29]] (Exists.intro [6] (Exists.intro [6, 29] (Exists.intro [29] (Exists.intro [0, 1, 3, 4, 5] (And.intro (by decide +kernel) ?_))))))))
   refine dp ?_
   refine st ?_
   refine e3 ?_
   refine st ?_
   refine cm (Zk.weak (rn []) (Znp r7.1 _ ZuY) rfl (WS.mk (Zd (Zp (lc (lc (lc (lc Zn))))) Zb) Zc)) ?_
   refine st ?_
   refine e3 ?_
   refine st ?_
   refine cm (Zk.weak (rn []) (Zmh r7.1 _ ZHg) rfl (WS.mk (Zd (Zp (lc (lc (lc (lc Zn))))) Zb) Zc)) ?_
   refine st ?_
   obtain rfl := Zh hF
   refine ns ?_
   refine Exists.intro [(1000, 1000)] ?_
   refine st ?_
   exact wx (WS.mk (Zd (Zca (ZbI (WE.refl _) (ZbI (WE.refl _) Zb8))) Zb) (Zf rfl (cc Zg) Zc))
  ·refine nw ?_
   refine AWP.seq ?_
   refine AWP.seq ?_
   obtain ⟨r16, ZAa, hF⟩ := bind_some hF
   refine ns ?_
   refine Zge (m := sub) (k := t.fName) ZfO (ev := Za.cells) ZAa (Za.cells_eq r16.1) (fun x => Za.cells_len x) rfl rfl (ZdW (Za.cells_eq (Za.mk 0 (ByteArray.mk #[]) (Zj.mk ([] : List Zj)) ([] : List Za))) (lc (lc (ZaE WE.nil (ZaE WE.nil Zn))))) ?_
   refine st ?_
   refine AWP.seq ?_
   refine AWP.cutN (fun T => ∃ r, WS r T ⟨[(0, .c none (.rf 1000)), (3, .ptr 3 0), (4, .c none (.v (.int .i64 0))), (5, .c none (.v (.int .i64 0))), (43, .c none (.v (.bool (r16.2 && (t.fOp == 4)))))], [(3, [(none, .v (.int .i64 t.fOp)), (none, .v (.string t.fName)), (none, .sl (t.fBound.fArgs.map Zj.cells)), (none, .sl (t.fKids.map Za.cells))]), (1000, [(none, .ob 183 (sub.map (Zdx c_S Za.cells)))])]⟩) ?_ (fun T hw => ?_)
   ·refine ns ?_
    refine Zl true (fun Zfg => ?_) (fun Zfg => ?_)
    ·(conv => whnf)
     refine st ?_
     exact wx (WS.mk (tc (tp (tc (tc (Zd (Zq (web Zfg)) Zb))))) (Zf rfl (cc (cc (cc (cc Zg)))) (Zf rfl (cc Zg) Zc)))
    ·(conv => whnf)
     refine st ?_
     exact wx (WS.mk (tc (tp (tc (tc (Zd (Zq (web Zfg)) Zb))))) (Zf rfl (cc (cc (cc (cc Zg)))) (Zf rfl (cc Zg) Zc)))
   obtain ⟨r0, hw⟩ := hw
   (conv => whnf)
   refine AWP.weak r0 hw ?_
   refine nw ?_
   refine Zi hF (fun ZgZ hF => ?_) (fun ZgZ hF => ?_)
   ·cases hF
   ·refine nw ?_
    refine AWP.seq ?_
    refine AWP.seq ?_
    refine ns ?_
    intro hlen32
    (try rw [List.length_map] at hlen32)
    (try rw [List.length_map])
    refine st ?_
    refine AWP.block ?_
    refine AWP.loop ?_
    refine AWL.weak (rn []) ?_ (Zf4 0 0 t 0 sub t.fKids _ hF ([]) rfl rfl hlen32)
    exact (WS.mk (tc (tc (tc (tc (tc (tc Zb)))))) (Zf rfl (cc Zg) Zc))
 ·intro types_measure' types_measure_l1' Zjt ZdI ZdB Zcx t ZnQ ZfT r hF
  have ZoX := fun (_sub : (List (ByteArray × Za))) (t : Za) => Zjt t
  clear Zjt
  have Zf4 := fun (ZdB : Int) (Zcx : Int) (t : Za) (ZnQ : Nat) (_sub : (List (ByteArray × Za))) (ZfT : (List Za)) => ZdI ZdB Zcx t ZnQ ZfT
  clear ZdI
  unfold Zaa.M
  intro Zof Zw3 Zwm hlen32
  refine AWL.step ?_
  refine AWP.seq ?_
  refine ns ?_
  refine AWP.seq ?_
  refine nw ?_
  refine ZF Zw3 Zwm (fun x42 ZBz ZBA ZGD ZHC => ?_) (fun ZBA => ?_)
  ·subst ZBA
   refine nw ?_
   refine AWP.seq ?_
   refine AWP.block ?_
   refine AWP.seq ?_
   refine nn ?_
   refine sr (ZX (f := Za.cells) (Za.cells_eq x42) ZGD) ?_
   refine st ?_
   refine AWP.seq ?_
   obtain ⟨r45, ZFs, hF⟩ := bind_some hF
   refine ns ?_
   refine Exists.intro [] (Exists.intro [(1000, 1000)] (Exists.intro [] ?_))
   refine st ?_
   refine cm (Zk.weak (rn []) (ZoX sub x42 _ ZFs) rfl (WS.mk (tc (Zd (Zp (lc (lc (lc (lc Zn))))) Zb)) (Zf rfl (cc Zg) Zc))) ?_
   refine st ?_
   refine ns ?_
   refine ns ?_
   refine AWL.weak (rn []) ?_ (Zf4 (IntKind.i64.wrap (ZdB + r45.1)) (if r45.2 > Zcx then r45.2 else Zcx) t (ZnQ + 1) sub ZBz _ hF (Zof ++ [x42]) (by rw [Zw3]; simp) (by rw [Zwm]; simp) hlen32)
   exact (WS.mk (tc (tc (tc (tc (tc (Zd (Zq (Zc0 (ZP hlen32 ZHC))) Zb)))))) (Zf rfl (cc Zg) Zc))
  ·subst ZBA
   refine nw ?_
   refine AWP.seq ?_
   refine ns ?_
   obtain rfl := Zh hF
   refine ns ?_
   refine Exists.intro [(1000, 1000)] ?_
   refine st ?_
   exact wx (WS.mk (Zd (Zca (ZbI (WE.refl _) (ZbI (WE.refl _) Zb8))) Zb) (Zf rfl (cc Zg) Zc))
theorem Zkd : ∀ (sub : (List (ByteArray × Za))) (t : Za), ∀ r, ZbG sub t = some r → ZbG.M sub t r := fun sub t => (ZoK sub).1 t

def Zdg (Zej : (List ByteArray)) (r77 : ((List ByteArray))) (Znl : Nat) (t : Za) (sub : (List (ByteArray × Za))) (Zgw : (List ByteArray)) : Option (Za) :=
 (match Zgw with
 | x92 :: Zz1 =>
 Zeg sub (Za.mk 0 (ByteArray.mk #[]) (Zj.mk ([] : List Zj)) ([] : List Za)) x92 >>= fun r95 =>
 if r95.2 = true then
 ZcV Zej ([] : List ByteArray) r95.1 >>= fun r97 =>
 Zdg r97 r77 (Znl + 1) t sub Zz1
 else
 Zdg Zej r77 (Znl + 1) t sub Zz1
 | [] =>
 none)
 partial_fixpoint
def Zdg.M (Zej : (List ByteArray)) (r77 : ((List ByteArray))) (Znl : Nat) (t : Za) (sub : (List (ByteArray × Za))) (Zgw : (List ByteArray)) (r : Za) : Prop :=
 ∀ Zms : List ByteArray, r77 = Zms ++ Zgw → Znl = Zms.length → r77.length ≤ maxLen → AWL Tryz.prog 98 (Code.sub (Zr Tryz.f70) [1, 1, 0, 1, 0, 1, 0, 1, 0, 0]) (Code.cont Tryz.prog 98 (Zr Tryz.f70) [1, 1, 0, 1, 0, 1, 0, 1, 0] (ZbV tab Tryz.f70.results (Zb0 (.agg [.v (.int .i64 r.fOp), .v (.string r.fName), .sl (r.fBound.fArgs.map Zj.cells), .sl (r.fKids.map Za.cells)]) [(1000, [(none, .ob 183 (sub.map (Zdx c_S Za.cells)))])]))) ⟨[(0, .c none (.rf 1000)), (3, .ptr 3 0), (4, .ptr 4 0), (7, .c (some (7, 9)) (.sl (Zej.map c_S))), (34, .c (some (34, 9)) (.sl (r77.map c_S))), (35, .c none (.v (.int .i64 ((r77.length : Nat) : Int)))), (36, .c none (.v (.int .i64 ((Znl : Nat) : Int))))], [(3, [(none, .v (.int .i64 t.fOp)), (none, .v (.string t.fName)), (none, .sl (t.fBound.fArgs.map Zj.cells)), (none, .sl (t.fKids.map Za.cells))]), (4, [(none, .v (.int .i64 0)), (none, .v (.string (ByteArray.mk #[]))), (none, .nils), (none, .nils)]), (1000, [(none, .ob 183 (sub.map (Zdx c_S Za.cells)))])]⟩
theorem Zoa (Zej : (List ByteArray)) (r77 : ((List ByteArray))) (Znl : Nat) (t : Za) (sub : (List (ByteArray × Za))) (Zgw : (List ByteArray)) : ∀ r, Zdg Zej r77 Znl t sub Zgw = some r → Zdg.M Zej r77 Znl t sub Zgw r := by
 refine Zdg.partial_correctness r77 t sub (fun Zej Znl Zgw r => Zdg.M Zej r77 Znl t sub Zgw r) ?_ Zej Znl Zgw
 intro types_subst_l1' Zi2 Zej Znl Zgw r hF
 have ZjD := fun (Zej : (List ByteArray)) (_r77 : ((List ByteArray))) (Znl : Nat) (_t : Za) (_sub : (List (ByteArray × Za))) (Zgw : (List ByteArray)) => Zi2 Zej Znl Zgw
 clear Zi2
 unfold Zdg.M
 intro Zms Ztn Ztu hlen78
 refine AWL.step ?_
 refine AWP.seq ?_
 refine ns ?_
 refine AWP.seq ?_
 refine nw ?_
 refine ZF Ztn Ztu (fun x92 Zz1 ZDs ZG0 ZEW => ?_) (fun ZDs => ?_)
 ·subst ZDs
  refine nw ?_
  refine AWP.seq ?_
  refine AWP.block ?_
  refine AWP.seq ?_
  refine nn ?_
  refine sr (ZX (f := c_S) rfl ZG0) ?_
  refine st ?_
  refine AWP.seq ?_
  obtain ⟨r95, ZFM, hF⟩ := bind_some hF
  refine ns ?_
  refine Zge (m := sub) (k := x92) ZfO (ev := Za.cells) ZFM (Za.cells_eq r95.1) (fun x => Za.cells_len x) rfl rfl (ZdW (Za.cells_eq (Za.mk 0 (ByteArray.mk #[]) (Zj.mk ([] : List Zj)) ([] : List Za))) (lc (lc (ZaE WE.nil (ZaE WE.nil Zn))))) ?_
  refine st ?_
  refine AWP.seq ?_
  refine ns ?_
  refine nw ?_
  refine Zi hF (fun ZvY hF => ?_) (fun ZvY hF => ?_)
  ·obtain ⟨r97, ZGb, hF⟩ := bind_some hF
   refine ns ?_
   refine e3 ?_
   refine st ?_
   refine cm (Zk.weak (rn [(7, 0)]) (ZjY Zej ([] : List ByteArray) r95.1 _ ZGb) rfl (WS.mk (Zd (ZaC rfl (WE.refl _)) (Zd (Zq WE.nil) (Zd (Zp (lc (lc (lc (lc Zn))))) Zb))) Zc)) ?_
   refine st ?_
   refine ns ?_
   refine AWL.weak (rn [(34, 34), (49, 7)]) ?_ (ZjD r97 r77 (Znl + 1) t sub Zz1 _ hF (Zms ++ [x92]) (by rw [Ztn]; simp) (by rw [Ztu]; simp) hlen78)
   exact (WS.mk (tc (tp (tp (Zd (ZaC rfl (WE.refl _)) (Zd (ZaC rfl (WE.refl _)) (tc (Zd (Zq (Zc0 (ZP hlen78 ZEW))) Zb))))))) (Zf rfl (cc (cc (cc (cc Zg)))) (Zf rfl (cc (cc (cc (cc Zg)))) (Zf rfl (cc Zg) Zc))))
  ·refine nw ?_
   refine ns ?_
   refine AWL.weak (rn [(7, 7), (34, 34)]) ?_ (ZjD Zej r77 (Znl + 1) t sub Zz1 _ hF (Zms ++ [x92]) (by rw [Ztn]; simp) (by rw [Ztu]; simp) hlen78)
   exact (WS.mk (tc (tp (tp (Zd (ZaC rfl (WE.refl _)) (Zd (ZaC rfl (WE.refl _)) (tc (Zd (Zq (Zc0 (ZP hlen78 ZEW))) Zb))))))) (Zf rfl (cc (cc (cc (cc Zg)))) (Zf rfl (cc (cc (cc (cc Zg)))) (Zf rfl (cc Zg) Zc))))
 ·subst ZDs
  refine nw ?_
  refine AWP.seq ?_
  cases hF

mutual
def ZcC (sub : (List (ByteArray × Za))) (t : Za) : Option (Za) :=
 if (t.fOp == 1) = true then
 Zeg sub (Za.mk 0 (ByteArray.mk #[]) (Zj.mk ([] : List Zj)) ([] : List Za)) t.fName >>= fun r12 =>
 if r12.2 = true then
 Zb9 r12.1 >>= fun r14 =>
 some r14
 else
 some t
 else
 if (t.fOp == 4) = true then
 ZcV ([] : List ByteArray) ([] : List ByteArray) t >>= fun r77 =>
 Zdg ([]) r77 0 t sub r77
 else
 ZbY t 0 ([]) sub t.fKids
 partial_fixpoint
def ZbY (t : Za) (ZnV : Nat) (Zip : (List Za)) (sub : (List (ByteArray × Za))) (ZfP : (List Za)) : Option (Za) :=
 (match ZfP with
 | ZzB :: Zyt =>
 ZcC sub ZzB >>= fun Zy5 =>
 ZV ((Zip.length + ([Zy5]).length) * 72 ≤ 140737488355328) >>= fun _ =>
 ZbY t (ZnV + 1) (Zip ++ ([Zy5])) sub Zyt
 | [] =>
 some (Za.mk t.fOp t.fName t.fBound Zip))
 partial_fixpoint
end
def ZcC.M (sub : (List (ByteArray × Za))) (t : Za) (r : Za) : Prop :=
 Zk Tryz.prog 70 [.c none (.rf 1000), .agg [.v (.int .i64 t.fOp), .v (.string t.fName), .sl (t.fBound.fArgs.map Zj.cells), .sl (t.fKids.map Za.cells)]] [(1000, [(none, .ob 183 (sub.map (Zdx c_S Za.cells)))])] (fun d b => d = .agg [.v (.int .i64 r.fOp), .v (.string r.fName), .sl (r.fBound.fArgs.map Zj.cells), .sl (r.fKids.map Za.cells)] ∧ b = [(1000, [(none, .ob 183 (sub.map (Zdx c_S Za.cells)))])])
def ZbY.M (t : Za) (ZnV : Nat) (Zip : (List Za)) (sub : (List (ByteArray × Za))) (ZfP : (List Za)) (r : Za) : Prop :=
 ∀ ZoD : List Za, t.fKids = ZoD ++ ZfP → ZnV = ZoD.length → t.fKids.length ≤ maxLen → AWL Tryz.prog 98 (Code.sub (Zr Tryz.f70) [1, 1, 1, 1, 1, 0, 1, 0, 0]) (Code.cont Tryz.prog 98 (Zr Tryz.f70) [1, 1, 1, 1, 1, 0, 1, 0] (ZbV tab Tryz.f70.results (Zb0 (.agg [.v (.int .i64 r.fOp), .v (.string r.fName), .sl (r.fBound.fArgs.map Zj.cells), .sl (r.fKids.map Za.cells)]) [(1000, [(none, .ob 183 (sub.map (Zdx c_S Za.cells)))])]))) ⟨[(0, .c none (.rf 1000)), (3, .ptr 3 0), (4, .ptr 4 0), (82, .c none (.sl (t.fKids.map Za.cells))), (83, .c none (.v (.int .i64 ((t.fKids.length : Nat) : Int)))), (84, .c none (.v (.int .i64 ((ZnV : Nat) : Int))))], [(3, [(none, .v (.int .i64 t.fOp)), (none, .v (.string t.fName)), (none, .sl (t.fBound.fArgs.map Zj.cells)), ((some (4153, 28)), .sl (Zip.map Za.cells))]), (4, [(none, .v (.int .i64 0)), (none, .v (.string (ByteArray.mk #[]))), (none, .nils), (none, .nils)]), (1000, [(none, .ob 183 (sub.map (Zdx c_S Za.cells)))])]⟩
theorem Zp1 (sub : (List (ByteArray × Za))) : (∀ (t : Za), ∀ r, ZcC sub t = some r → ZcC.M sub t r) ∧ (∀ (t : Za) (ZnV : Nat) (Zip : (List Za)) (ZfP : (List Za)), ∀ r, ZbY t ZnV Zip sub ZfP = some r → ZbY.M t ZnV Zip sub ZfP r) := by
 refine ZcC.mutual_partial_correctness sub (fun t r => ZcC.M sub t r) (fun t ZnV Zip ZfP r => ZbY.M t ZnV Zip sub ZfP r) ?_ ?_
 ·intro types_subst_l2' Zee t r hF
  have Zhs := fun (t : Za) (ZnV : Nat) (Zip : (List Za)) (_sub : (List (ByteArray × Za))) (ZfP : (List Za)) => Zee t ZnV Zip ZfP
  clear Zee
  unfold ZcC.M
  refine en Tryz.func70 ?_
  refine AWP.seq ?_
  refine ns ?_
  refine AWP.seq ?_
  refine AWP.seq ?_
  refine ns ?_
  refine nw ?_
  refine Zi hF (fun hc8 hF => ?_) (fun hc8 hF => ?_)
  ·refine AWP.seq ?_
   refine AWP.seq ?_
   obtain ⟨r12, ZuY, hF⟩ := bind_some hF
   refine ns ?_
   refine Zge (m := sub) (k := t.fName) ZfO (ev := Za.cells) ZuY (Za.cells_eq r12.1) (fun x => Za.cells_len x) rfl rfl (ZdW (Za.cells_eq (Za.mk 0 (ByteArray.mk #[]) (Zj.mk ([] : List Zj)) ([] : List Za))) (lc (lc (ZaE WE.nil (ZaE WE.nil Zn))))) ?_
   refine st ?_
   refine AWP.seq ?_
   refine ns ?_
   refine nw ?_
   refine Zi hF (fun ZcB hF => ?_) (fun ZcB hF => ?_)
   ·refine AWP.seq ?_
    obtain ⟨r14, Zpa, hF⟩ := bind_some hF
    refine ns ?_
    refine e3 ?_
    refine st ?_
    refine cm (Zk.weak (rn []) (ZpV r12.1 _ Zpa) rfl (WS.mk (Zd (Zp (lc (lc (lc (lc Zn))))) Zb) Zc)) ?_
    refine st ?_
    obtain rfl := Zh hF
    refine ns ?_
    refine Exists.intro [(1000, 1000)] ?_
    refine st ?_
    exact wx (WS.mk (Zd (Zp (lc (lc (lc (lc Zn))))) Zb) (Zf rfl (cc Zg) Zc))
   ·refine nw ?_
    refine AWP.seq ?_
    refine ns ?_
    obtain rfl := Zh hF
    refine ns ?_
    refine Exists.intro [(1000, 1000)] ?_
    refine st ?_
    exact wx (WS.mk (Zd (Zp (lc (lc (lc (lc Zn))))) Zb) (Zf rfl (cc Zg) Zc))
  ·refine nw ?_
   refine AWP.seq ?_
   refine AWP.seq ?_
   refine ns ?_
   refine nw ?_
   refine Zi hF (fun ZiJ hF => ?_) (fun ZiJ hF => ?_)
   ·refine AWP.seq ?_
    refine ns ?_
    refine AWP.seq ?_
    refine AWP.seq ?_
    obtain ⟨r77, ZFB, hF⟩ := bind_some hF
    refine ns ?_
    refine e3 ?_
    refine st ?_
    refine cm (Zk.weak (rn []) (ZjY ([] : List ByteArray) ([] : List ByteArray) t _ ZFB) rfl (WS.mk (Zd ZjS (Zd (Zq WE.nil) (Zd (Zp (lc (lc (lc (lc Zn))))) Zb))) Zc)) ?_
    refine st ?_
    intro hlen78
    (try rw [List.length_map] at hlen78)
    (try rw [List.length_map])
    refine st ?_
    refine AWP.block ?_
    refine AWP.loop ?_
    refine AWL.weak (rn [(34, 34)]) ?_ (Zoa ([]) r77 0 t sub r77 _ hF ([]) rfl rfl hlen78)
    exact (WS.mk (tc (tp (tp (Zd ZjS (Zd (ZaC rfl (WE.refl _)) (tc (tc Zb))))))) (Zf rfl (cc (cc (cc (cc Zg)))) (Zf rfl (cc (cc (cc (cc Zg)))) (Zf rfl (cc Zg) Zc))))
   ·refine nw ?_
    refine AWP.seq ?_
    refine ns ?_
    refine AWP.seq ?_
    refine ns ?_
    refine AWP.seq ?_
    refine AWP.seq ?_
    refine ns ?_
    intro hlen138
    (try rw [List.length_map] at hlen138)
    (try rw [List.length_map])
    refine st ?_
    refine AWP.block ?_
    refine AWP.loop ?_
    refine AWL.weak (rn []) ?_ (Zhs t 0 ([]) sub t.fKids _ hF ([]) rfl rfl hlen138)
    exact (WS.mk (tc (tp (tp (tc (tc (tc Zb)))))) (Zf rfl (cc (cc (cc (Zj2 Zg)))) (Zf rfl (cc (cc (cc (cc Zg)))) (Zf rfl (cc Zg) Zc))))
 ·intro types_subst' types_subst_l2' Zls Zee t ZnV Zip ZfP r hF
  have ZrM := fun (_sub : (List (ByteArray × Za))) (t : Za) => Zls t
  clear Zls
  have Zhs := fun (t : Za) (ZnV : Nat) (Zip : (List Za)) (_sub : (List (ByteArray × Za))) (ZfP : (List Za)) => Zee t ZnV Zip ZfP
  clear Zee
  unfold ZbY.M
  intro ZoD Zwh ZwB hlen138
  refine AWL.step ?_
  refine AWP.seq ?_
  refine ns ?_
  refine AWP.seq ?_
  refine nw ?_
  refine ZF Zwh ZwB (fun ZzB Zyt ZyF ZFh ZEM => ?_) (fun ZyF => ?_)
  ·subst ZyF
   refine nw ?_
   refine AWP.seq ?_
   refine AWP.block ?_
   refine AWP.seq ?_
   refine nn ?_
   refine sr (ZX (f := Za.cells) (Za.cells_eq ZzB) ZFh) ?_
   refine st ?_
   obtain ⟨Zy5, ZDN, hF⟩ := bind_some hF
   obtain ⟨ZDZ, hF⟩ := Zv hF
   refine nn ?_
   refine Or.inl (Or.inl (Exists.intro 6 (Exists.intro [[], [], [], [], [1000], []] (Exists.intro [([88, 89, 90, 91, 92, 93], [1000], []), ([89, 90, 91, 92, 93], [1000], []), ([88, 89, 90, 91, 92, 93], [], []), ([88, 89, 90, 91, 92, 93], [], []), ([88, 89, 92, 93], [], [1000]), ([88, 89, 93], [], [])] (Exists.intro [88, 89, 90, 91, 92, 93] (And.intro (by decide +kernel) ?_))))))
   refine dp ?_
   refine dp ?_
   refine dp ?_
   refine dp ?_
   (refine st ?_; apply Exists.intro; apply Exists.intro; apply And.intro; (focus ((conv => whnf); refine Exists.intro [(1000, 1000)] ?_; (conv => whnf); refine And.intro rfl ?_; (conv => whnf); refine Zk.mono (Zk.weak (rn []) (ZrM sub ZzB _ ZDN) rfl (WS.mk (tc (Zd (Zp (lc (lc (lc (lc Zn))))) Zb)) (Zf rfl (cc Zg) Zc))) ?_; rintro d b ⟨rfl, rfl⟩; exact And.intro rfl (And.intro rfl rfl))); apply And.intro; (focus exact rfl); (conv => whnf))
   refine de (Zcb (f := Za.cells) (ZdW (Za.cells_eq Zy5) (lc (lc (lc (lc Zn))))) (Zap (f := Za.cells))) ?_
   refine sa (fun l => ZbH l (fun x => Za.cells_len x)) ZDZ ?_
   refine Exists.intro _ (And.intro (WE.refl _) ?_)
   rw [← List.map_append]
   refine st ?_
   refine ns ?_
   refine AWL.weak (rn [(94, 4153)]) ?_ (Zhs t (ZnV + 1) (Zip ++ ([Zy5])) sub Zyt _ hF (ZoD ++ [ZzB]) (by rw [Zwh]; simp) (by rw [ZwB]; simp) hlen138)
   exact (WS.mk (tc (tp (tp (tc (tc (Zd (Zq (Zc0 (ZP hlen138 ZEM))) Zb)))))) (Zf rfl (cc (cc (cc (ZgC rfl (WE.refl _) Zg)))) (Zf rfl (cc (cc (cc (cc Zg)))) (Zf rfl (cc Zg) Zc))))
  ·subst ZyF
   refine nw ?_
   refine AWP.seq ?_
   refine ns ?_
   obtain rfl := Zh hF
   refine ns ?_
   refine Exists.intro [(1000, 1000)] ?_
   refine st ?_
   exact wx (WS.mk (Zd (Zp (lc (lc (lc (lc Zn))))) Zb) (Zf rfl (cc Zg) Zc))
theorem Zmj : ∀ (sub : (List (ByteArray × Za))) (t : Za), ∀ r, ZcC sub t = some r → ZcC.M sub t r := fun sub t => (Zp1 sub).1 t

def Zcf (s : (List Ze)) (Zfz : Nat) (t : Za) (Za4 : (List (ByteArray × Za))) (Zc6 : (List Ze)) : Option (Za) :=
 (match Zc6 with
 | x73 :: ZqT =>
 ZaS x73.fName >>= fun r80 =>
 (if (!r80) = true then some true else Zbt x73.fType >>= fun r81 =>
 some (r81 != 0)) >>= fun c82 =>
 if c82 = true then
 some (Za.mk 0 (ByteArray.mk #[]) (Zj.mk ([] : List Zj)) ([] : List Za))
 else
 Zeg Za4 (Za.mk 0 (ByteArray.mk #[]) (Zj.mk ([] : List Zj)) ([] : List Za)) x73.fName >>= fun r85 =>
 if (!r85.2) = true then
 Zcf s (Zfz + 1) t (ZgY Za4 x73.fName x73.fType) ZqT
 else
 Zcf s (Zfz + 1) t Za4 ZqT
 | [] =>
 ZbG Za4 t >>= fun r89 =>
 if ((decide (r89.1 > 20000)) || (decide (r89.2 > 100))) = true then
 some (Za.mk 0 (ByteArray.mk #[]) (Zj.mk ([] : List Zj)) ([] : List Za))
 else
 ZcC Za4 t >>= fun r92 =>
 some r92)
 partial_fixpoint
def Zcf.M (s : (List Ze)) (Zfz : Nat) (t : Za) (Za4 : (List (ByteArray × Za))) (Zc6 : (List Ze)) (r : Za) : Prop :=
 ∀ ZfM : List Ze, s = ZfM ++ Zc6 → Zfz = ZfM.length → s.length ≤ maxLen → AWL Tryz.prog 65 (Code.sub (Zr Tryz.f44) [1, 1, 1, 0, 1, 0, 0]) (Code.cont Tryz.prog 65 (Zr Tryz.f44) [1, 1, 1, 0, 1, 0] (ZbV tab Tryz.f44.results (Zb0 (.agg [.v (.int .i64 r.fOp), .v (.string r.fName), .sl (r.fBound.fArgs.map Zj.cells), .sl (r.fKids.map Za.cells)]) [(1000, [(none, .ob 90 (s.map Ze.cells))])]))) ⟨[(3, .ptr 3 0), (4, .ptr 4 0), (5, .c none (.rf 16)), (17, .c none (.rs 1000 s.length)), (18, .c none (.v (.int .i64 ((s.length : Nat) : Int)))), (19, .c none (.v (.int .i64 ((Zfz : Nat) : Int))))], [(3, [(none, .v (.int .i64 t.fOp)), (none, .v (.string t.fName)), (none, .sl (t.fBound.fArgs.map Zj.cells)), (none, .sl (t.fKids.map Za.cells))]), (4, [(none, .v (.int .i64 0)), (none, .v (.string (ByteArray.mk #[]))), (none, .nils), (none, .nils)]), (16, [(none, .ob 183 (Za4.map (Zdx c_S Za.cells)))]), (1000, [(none, .ob 90 (s.map Ze.cells))])]⟩
theorem Zn2 (s : (List Ze)) (Zfz : Nat) (t : Za) (Za4 : (List (ByteArray × Za))) (Zc6 : (List Ze)) : ∀ r, Zcf s Zfz t Za4 Zc6 = some r → Zcf.M s Zfz t Za4 Zc6 r := by
 refine Zcf.partial_correctness s t (fun Zfz Za4 Zc6 r => Zcf.M s Zfz t Za4 Zc6 r) ?_ Zfz Za4 Zc6
 intro types_Subst_l1' Zi7 Zfz Za4 Zc6 r hF
 have Zjx := fun (_s : (List Ze)) (Zfz : Nat) (_t : Za) (Za4 : (List (ByteArray × Za))) (Zc6 : (List Ze)) => Zi7 Zfz Za4 Zc6
 clear Zi7
 unfold Zcf.M
 intro ZfM Zli ZkE hlen45
 refine AWL.step ?_
 refine AWP.seq ?_
 refine ns ?_
 refine AWP.seq ?_
 refine nw ?_
 refine ZF Zli ZkE (fun x73 ZqT ZvG Zxo Zzv => ?_) (fun ZvG => ?_)
 ·subst ZvG
  refine nw ?_
  refine AWP.seq ?_
  refine AWP.block ?_
  refine AWP.seq ?_
  refine ns ?_
  refine And.intro (ZqM Zxo) ?_
  refine st ?_
  refine sr (ZX (f := Ze.cells) (Ze.cells_eq x73) Zxo) ?_
  refine st ?_
  refine AWP.seq ?_
  refine AWP.seq ?_
  obtain ⟨r80, ZDb, hF⟩ := bind_some hF
  obtain ⟨c82, Zl8, hF⟩ := bind_some hF
  refine AWP.cutN (fun T => ∃ r, WS r T ⟨[(3, .ptr 3 0), (4, .ptr 4 0), (5, .c none (.rf 16)), (7, .ptr 7 0), (17, .c none (.rs 1000 s.length)), (18, .c none (.v (.int .i64 ((s.length : Nat) : Int)))), (19, .c none (.v (.int .i64 ((Zfz : Nat) : Int)))), (32, .c none (.v (.bool c82)))], [(3, [(none, .v (.int .i64 t.fOp)), (none, .v (.string t.fName)), (none, .sl (t.fBound.fArgs.map Zj.cells)), (none, .sl (t.fKids.map Za.cells))]), (4, [(none, .v (.int .i64 0)), (none, .v (.string (ByteArray.mk #[]))), (none, .nils), (none, .nils)]), (7, [(none, .v (.string x73.fName)), (none, .v (.int .i64 x73.fType.fOp)), (none, .v (.string x73.fType.fName)), (none, .sl (x73.fType.fBound.fArgs.map Zj.cells)), (none, .sl (x73.fType.fKids.map Za.cells))]), (16, [(none, .ob 183 (Za4.map (Zdx c_S Za.cells)))]), (1000, [(none, .ob 90 (s.map Ze.cells))])]⟩) ?_ (fun T hw => ?_)
  ·refine ns ?_
   refine e3 ?_
   refine st ?_
   refine cm (Zk.weak (rn []) (Zfk x73.fName _ ZDb) rfl (WS.mk (tc Zb) Zc)) ?_
   refine st ?_
   refine Zl false (fun Zqj => ?_) (fun Zqj => ?_)
   ·have Zl8 := ift Zqj Zl8
    (conv => whnf)
    obtain rfl := Zh Zl8
    refine st ?_
    exact wx (WS.mk (tp (tp (tc (tp (Zd (Zq (Z2 (by first | exact rfl | simp only [List.length_set]))) (tc (tc (Zd (Zq (web Zqj)) Zb)))))))) (Zf rfl (cc (cc (cc (cc Zg)))) (Zf rfl (cc (cc (cc (cc Zg)))) (Zf rfl (cc (cc (cc (cc (cc Zg))))) (Zf rfl (cc Zg) (Zf rfl (cc Zg) Zc))))))
   ·have Zl8 := ife Zqj Zl8
    obtain ⟨r81, ZCK, Zl8⟩ := bind_some Zl8
    (conv => whnf)
    refine st ?_
    refine e3 ?_
    refine st ?_
    refine cm (Zk.weak (rn []) (ZdJ x73.fType _ ZCK) rfl (WS.mk (Zd (Zp (lc (lc (lc (lc Zn))))) Zb) Zc)) ?_
    refine st ?_
    obtain rfl := Zh Zl8
    refine st ?_
    exact wx (WS.mk (tp (tp (tc (tp (Zd (Zq (Z2 (by first | exact rfl | simp only [List.length_set]))) (tc (tc (Zd (Zq (web Zqj)) Zb)))))))) (Zf rfl (cc (cc (cc (cc Zg)))) (Zf rfl (cc (cc (cc (cc Zg)))) (Zf rfl (cc (cc (cc (cc (cc Zg))))) (Zf rfl (cc Zg) (Zf rfl (cc Zg) Zc))))))
  obtain ⟨r0, hw⟩ := hw
  (conv => whnf)
  refine AWP.weak r0 hw ?_
  refine nw ?_
  refine Zi hF (fun ZzK hF => ?_) (fun ZzK hF => ?_)
  ·refine AWP.seq ?_
   refine ns ?_
   obtain rfl := Zh hF
   refine ns ?_
   refine Exists.intro [(1000, 1000)] ?_
   refine st ?_
   exact wx (WS.mk (Zd (Zp (lc (lc (ZaE WE.nil (ZaE WE.nil Zn))))) Zb) (Zf rfl (cc Zg) Zc))
  ·refine nw ?_
   refine AWP.seq ?_
   obtain ⟨r85, ZDe, hF⟩ := bind_some hF
   refine ns ?_
   refine Zge (m := Za4) (k := x73.fName) ZfO (ev := Za.cells) ZDe (Za.cells_eq r85.1) (fun x => Za.cells_len x) rfl rfl (ZdW (Za.cells_eq (Za.mk 0 (ByteArray.mk #[]) (Zj.mk ([] : List Zj)) ([] : List Za))) (lc (lc (ZaE WE.nil (ZaE WE.nil Zn))))) ?_
   refine st ?_
   refine AWP.seq ?_
   refine ns ?_
   refine nw ?_
   refine Zi hF (fun ZC1 hF => ?_) (fun ZC1 hF => ?_)
   ·refine ns ?_
    refine ZmJ (m := Za4) (k := x73.fName) (v := x73.fType) ZfO (ev := Za.cells) (ZdW (Za.cells_eq x73.fType) (lc (lc (lc (lc Zn))))) ?_
    refine st ?_
    refine ns ?_
    refine AWL.weak (rn []) ?_ (Zjx s (Zfz + 1) t (ZgY Za4 x73.fName x73.fType) ZqT _ hF (ZfM ++ [x73]) (by rw [Zli]; simp) (by rw [ZkE]; simp) hlen45)
    exact (WS.mk (tp (tp (tc (Zd (Zq (Z2 (by first | exact rfl | simp only [List.length_set]))) (tc (Zd (Zq (Zc0 (ZP hlen45 Zzv))) Zb)))))) (Zf rfl (cc (cc (cc (cc Zg)))) (Zf rfl (cc (cc (cc (cc Zg)))) (Zf rfl (cc Zg) (Zf rfl (cc Zg) Zc)))))
   ·refine nw ?_
    refine ns ?_
    refine AWL.weak (rn []) ?_ (Zjx s (Zfz + 1) t Za4 ZqT _ hF (ZfM ++ [x73]) (by rw [Zli]; simp) (by rw [ZkE]; simp) hlen45)
    exact (WS.mk (tp (tp (tc (Zd (Zq (Z2 (by first | exact rfl | simp only [List.length_set]))) (tc (Zd (Zq (Zc0 (ZP hlen45 Zzv))) Zb)))))) (Zf rfl (cc (cc (cc (cc Zg)))) (Zf rfl (cc (cc (cc (cc Zg)))) (Zf rfl (cc Zg) (Zf rfl (cc Zg) Zc)))))
 ·subst ZvG
  refine nw ?_
  refine AWP.seq ?_
  refine AWP.seq ?_
  obtain ⟨r89, ZBo, hF⟩ := bind_some hF
  refine ns ?_
  refine Exists.intro [] (Exists.intro [(16, 1000)] (Exists.intro [] ?_))
  refine st ?_
  refine cm (Zk.weak (rn []) (Zkd Za4 t _ ZBo) rfl (WS.mk (tc (Zd (Zp (lc (lc (lc (lc Zn))))) Zb)) (Zf rfl (cc Zg) Zc))) ?_
  refine st ?_
  refine AWP.seq ?_
  refine AWP.cutN (fun T => ∃ r, WS r T ⟨[(3, .ptr 3 0), (4, .ptr 4 0), (5, .c none (.rf 16)), (60, .c none (.v (.bool ((decide (r89.1 > 20000)) || (decide (r89.2 > 100))))))], [(3, [(none, .v (.int .i64 t.fOp)), (none, .v (.string t.fName)), (none, .sl (t.fBound.fArgs.map Zj.cells)), (none, .sl (t.fKids.map Za.cells))]), (4, [(none, .v (.int .i64 0)), (none, .v (.string (ByteArray.mk #[]))), (none, .nils), (none, .nils)]), (16, [(none, .ob 183 (Za4.map (Zdx c_S Za.cells)))]), (1000, [(none, .ob 90 (s.map Ze.cells))])]⟩) ?_ (fun T hw => ?_)
  ·refine ns ?_
   refine Zl false (fun ZvF => ?_) (fun ZvF => ?_)
   ·(conv => whnf)
    refine st ?_
    exact wx (WS.mk (tp (tp (tc (Zd (Zq (web ZvF)) Zb)))) (Zf rfl (cc (cc (cc (cc Zg)))) (Zf rfl (cc (cc (cc (cc Zg)))) (Zf rfl (cc Zg) (Zf rfl (cc Zg) Zc)))))
   ·(conv => whnf)
    refine st ?_
    exact wx (WS.mk (tp (tp (tc (Zd (Zq (web ZvF)) Zb)))) (Zf rfl (cc (cc (cc (cc Zg)))) (Zf rfl (cc (cc (cc (cc Zg)))) (Zf rfl (cc Zg) (Zf rfl (cc Zg) Zc)))))
  obtain ⟨r0, hw⟩ := hw
  (conv => whnf)
  refine AWP.weak r0 hw ?_
  refine nw ?_
  refine Zi hF (fun ZDc hF => ?_) (fun ZDc hF => ?_)
  ·refine AWP.seq ?_
   refine ns ?_
   obtain rfl := Zh hF
   refine ns ?_
   refine Exists.intro [(1000, 1000)] ?_
   refine st ?_
   exact wx (WS.mk (Zd (Zp (lc (lc (ZaE WE.nil (ZaE WE.nil Zn))))) Zb) (Zf rfl (cc Zg) Zc))
  ·refine nw ?_
   refine AWP.seq ?_
   obtain ⟨r92, Zyo, hF⟩ := bind_some hF
   refine ns ?_
   refine Exists.intro [] (Exists.intro [(16, 1000)] (Exists.intro [] ?_))
   refine st ?_
   refine cm (Zk.weak (rn []) (Zmj Za4 t _ Zyo) rfl (WS.mk (tc (Zd (Zp (lc (lc (lc (lc Zn))))) Zb)) (Zf rfl (cc Zg) Zc))) ?_
   refine st ?_
   obtain rfl := Zh hF
   refine ns ?_
   refine Exists.intro [(1000, 1000)] ?_
   refine st ?_
   exact wx (WS.mk (Zd (Zp (lc (lc (lc (lc Zn))))) Zb) (Zf rfl (cc Zg) Zc))

def ZeD (s : (List Ze)) (t : Za) : Option (Za) :=
 Zbt t >>= fun r3 =>
 if (r3 != 0) = true then
 some (Za.mk 0 (ByteArray.mk #[]) (Zj.mk ([] : List Zj)) ([] : List Za))
 else
 Zcf s 0 t ([] : List (ByteArray × Za)) s
def ZeD.M (s : (List Ze)) (t : Za) (r : Za) : Prop :=
 Zk Tryz.prog 44 [.c none (.rs 1000 s.length), .agg [.v (.int .i64 t.fOp), .v (.string t.fName), .sl (t.fBound.fArgs.map Zj.cells), .sl (t.fKids.map Za.cells)]] [(1000, [(none, .ob 90 (s.map Ze.cells))])] (fun d b => d = .agg [.v (.int .i64 r.fOp), .v (.string r.fName), .sl (r.fBound.fArgs.map Zj.cells), .sl (r.fKids.map Za.cells)] ∧ b = [(1000, [(none, .ob 90 (s.map Ze.cells))])])
theorem ZrQ (s : (List Ze)) (t : Za) (r : Za) (hF : ZeD s t = some r) : ZeD.M s t r := by
 unfold ZeD at hF
 unfold ZeD.M
 refine en Tryz.func44 ?_
 refine AWP.seq ?_
 refine ns ?_
 refine AWP.seq ?_
 refine AWP.seq ?_
 obtain ⟨r3, hr3, hF⟩ := bind_some hF
 refine ns ?_
 refine e3 ?_
 refine st ?_
 refine cm (Zk.weak (rn []) (ZdJ t _ hr3) rfl (WS.mk (Zd (Zp (lc (lc (lc (lc Zn))))) Zb) Zc)) ?_
 refine st ?_
 refine nw ?_
 refine Zi hF (fun hc4 hF => ?_) (fun hc4 hF => ?_)
 ·refine AWP.seq ?_
  refine ns ?_
  obtain rfl := Zh hF
  refine ns ?_
  refine Exists.intro [(1000, 1000)] ?_
  refine st ?_
  exact wx (WS.mk (Zd (Zp (lc (lc (ZaE WE.nil (ZaE WE.nil Zn))))) Zb) (Zf rfl (cc Zg) Zc))
 ·refine nw ?_
  refine AWP.seq ?_
  refine ns ?_
  refine AWP.seq ?_
  refine AWP.seq ?_
  refine ns ?_
  intro hlen45
  (try rw [List.length_map] at hlen45)
  (try rw [List.length_map])
  refine st ?_
  refine AWP.block ?_
  refine AWP.loop ?_
  refine AWL.weak (rn []) ?_ (Zn2 s 0 t ([] : List (ByteArray × Za)) s _ hF ([]) rfl rfl hlen45)
  exact (WS.mk (tp (tp (tc (Zd (Zq (Z2 (by first | exact rfl | simp only [List.length_set]))) (tc (tc Zb)))))) (Zf rfl (cc (cc (cc (cc Zg)))) (Zf rfl (cc (cc (cc (cc Zg)))) (Zf rfl (cc Zg) (Zf rfl (cc Zg) Zc)))))

def ZbP (s : (List Ze)) (Zfz : Nat) (t : Za) (Za4 : (List (ByteArray × Za))) (Zc6 : (List Ze)) : Option (Za) :=
 (match Zc6 with
 | x73 :: ZqT =>
 ZaS x73.fName >>= fun r80 =>
 (if (!r80) = true then some true else Zbt x73.fType >>= fun r81 =>
 some (r81 != 0)) >>= fun c82 =>
 if c82 = true then
 some (Za.mk 0 (ByteArray.mk #[]) (Zj.mk ([] : List Zj)) ([] : List Za))
 else
 Zeg Za4 (Za.mk 0 (ByteArray.mk #[]) (Zj.mk ([] : List Zj)) ([] : List Za)) x73.fName >>= fun r85 =>
 if (!r85.2) = true then
 ZbP s (Zfz + 1) t (ZgY Za4 x73.fName x73.fType) ZqT
 else
 ZbP s (Zfz + 1) t Za4 ZqT
 | [] =>
 ZbG Za4 t >>= fun r89 =>
 if ((decide (r89.1 > 20000)) || (decide (r89.2 > 100))) = true then
 some (Za.mk 0 (ByteArray.mk #[]) (Zj.mk ([] : List Zj)) ([] : List Za))
 else
 ZcC Za4 t >>= fun r92 =>
 some r92)
 partial_fixpoint
def ZbP.M (s : (List Ze)) (Zfz : Nat) (t : Za) (Za4 : (List (ByteArray × Za))) (Zc6 : (List Ze)) (r : Za) : Prop :=
 ∀ ZfM : List Ze, s = ZfM ++ Zc6 → Zfz = ZfM.length → s.length ≤ maxLen → AWL Tryz.prog 65 (Code.sub (Zr Tryz.f44) [1, 1, 1, 0, 1, 0, 0]) (Code.cont Tryz.prog 65 (Zr Tryz.f44) [1, 1, 1, 0, 1, 0] (ZbV tab Tryz.f44.results (Zb0 (.agg [.v (.int .i64 r.fOp), .v (.string r.fName), .sl (r.fBound.fArgs.map Zj.cells), .sl (r.fKids.map Za.cells)]) []))) ⟨[(3, .ptr 3 0), (4, .ptr 4 0), (5, .c none (.rf 16)), (17, .c none (.sl (s.map Ze.cells))), (18, .c none (.v (.int .i64 ((s.length : Nat) : Int)))), (19, .c none (.v (.int .i64 ((Zfz : Nat) : Int))))], [(3, [(none, .v (.int .i64 t.fOp)), (none, .v (.string t.fName)), (none, .sl (t.fBound.fArgs.map Zj.cells)), (none, .sl (t.fKids.map Za.cells))]), (4, [(none, .v (.int .i64 0)), (none, .v (.string (ByteArray.mk #[]))), (none, .nils), (none, .nils)]), (16, [(none, .ob 183 (Za4.map (Zdx c_S Za.cells)))])]⟩
theorem ZnS (s : (List Ze)) (Zfz : Nat) (t : Za) (Za4 : (List (ByteArray × Za))) (Zc6 : (List Ze)) : ∀ r, ZbP s Zfz t Za4 Zc6 = some r → ZbP.M s Zfz t Za4 Zc6 r := by
 refine ZbP.partial_correctness s t (fun Zfz Za4 Zc6 r => ZbP.M s Zfz t Za4 Zc6 r) ?_ Zfz Za4 Zc6
 intro types_Subst__l1' Zin Zfz Za4 Zc6 r hF
 have Zja := fun (_s : (List Ze)) (Zfz : Nat) (_t : Za) (Za4 : (List (ByteArray × Za))) (Zc6 : (List Ze)) => Zin Zfz Za4 Zc6
 clear Zin
 unfold ZbP.M
 intro ZfM Zli ZkE hlen45
 refine AWL.step ?_
 refine AWP.seq ?_
 refine ns ?_
 refine AWP.seq ?_
 refine nw ?_
 refine ZF Zli ZkE (fun x73 ZqT ZvG Zxo Zzv => ?_) (fun ZvG => ?_)
 ·subst ZvG
  refine nw ?_
  refine AWP.seq ?_
  refine AWP.block ?_
  refine AWP.seq ?_
  refine nn ?_
  refine sr (ZX (f := Ze.cells) (Ze.cells_eq x73) Zxo) ?_
  refine st ?_
  refine AWP.seq ?_
  refine AWP.seq ?_
  obtain ⟨r80, ZDb, hF⟩ := bind_some hF
  obtain ⟨c82, Zl8, hF⟩ := bind_some hF
  refine AWP.cutN (fun T => ∃ r, WS r T ⟨[(3, .ptr 3 0), (4, .ptr 4 0), (5, .c none (.rf 16)), (7, .ptr 7 0), (17, .c none (.sl (s.map Ze.cells))), (18, .c none (.v (.int .i64 ((s.length : Nat) : Int)))), (19, .c none (.v (.int .i64 ((Zfz : Nat) : Int)))), (32, .c none (.v (.bool c82)))], [(3, [(none, .v (.int .i64 t.fOp)), (none, .v (.string t.fName)), (none, .sl (t.fBound.fArgs.map Zj.cells)), (none, .sl (t.fKids.map Za.cells))]), (4, [(none, .v (.int .i64 0)), (none, .v (.string (ByteArray.mk #[]))), (none, .nils), (none, .nils)]), (7, [(none, .v (.string x73.fName)), (none, .v (.int .i64 x73.fType.fOp)), (none, .v (.string x73.fType.fName)), (none, .sl (x73.fType.fBound.fArgs.map Zj.cells)), (none, .sl (x73.fType.fKids.map Za.cells))]), (16, [(none, .ob 183 (Za4.map (Zdx c_S Za.cells)))])]⟩) ?_ (fun T hw => ?_)
  ·refine ns ?_
   refine e3 ?_
   refine st ?_
   refine cm (Zk.weak (rn []) (Zfk x73.fName _ ZDb) rfl (WS.mk (tc Zb) Zc)) ?_
   refine st ?_
   refine Zl false (fun Zqj => ?_) (fun Zqj => ?_)
   ·have Zl8 := ift Zqj Zl8
    (conv => whnf)
    obtain rfl := Zh Zl8
    refine st ?_
    exact wx (WS.mk (tp (tp (tc (tp (tc (tc (tc (Zd (Zq (web Zqj)) Zb)))))))) (Zf rfl (cc (cc (cc (cc Zg)))) (Zf rfl (cc (cc (cc (cc Zg)))) (Zf rfl (cc (cc (cc (cc (cc Zg))))) (Zf rfl (cc Zg) Zc)))))
   ·have Zl8 := ife Zqj Zl8
    obtain ⟨r81, ZCK, Zl8⟩ := bind_some Zl8
    (conv => whnf)
    refine st ?_
    refine e3 ?_
    refine st ?_
    refine cm (Zk.weak (rn []) (ZdJ x73.fType _ ZCK) rfl (WS.mk (Zd (Zp (lc (lc (lc (lc Zn))))) Zb) Zc)) ?_
    refine st ?_
    obtain rfl := Zh Zl8
    refine st ?_
    exact wx (WS.mk (tp (tp (tc (tp (tc (tc (tc (Zd (Zq (web Zqj)) Zb)))))))) (Zf rfl (cc (cc (cc (cc Zg)))) (Zf rfl (cc (cc (cc (cc Zg)))) (Zf rfl (cc (cc (cc (cc (cc Zg))))) (Zf rfl (cc Zg) Zc)))))
  obtain ⟨r0, hw⟩ := hw
  (conv => whnf)
  refine AWP.weak r0 hw ?_
  refine nw ?_
  refine Zi hF (fun ZzK hF => ?_) (fun ZzK hF => ?_)
  ·refine AWP.seq ?_
   refine ns ?_
   obtain rfl := Zh hF
   refine ns ?_
   refine Exists.intro [] ?_
   refine st ?_
   exact wx (WS.mk (Zd (Zp (lc (lc (ZaE WE.nil (ZaE WE.nil Zn))))) Zb) Zc)
  ·refine nw ?_
   refine AWP.seq ?_
   obtain ⟨r85, ZDe, hF⟩ := bind_some hF
   refine ns ?_
   refine Zge (m := Za4) (k := x73.fName) ZfO (ev := Za.cells) ZDe (Za.cells_eq r85.1) (fun x => Za.cells_len x) rfl rfl (ZdW (Za.cells_eq (Za.mk 0 (ByteArray.mk #[]) (Zj.mk ([] : List Zj)) ([] : List Za))) (lc (lc (ZaE WE.nil (ZaE WE.nil Zn))))) ?_
   refine st ?_
   refine AWP.seq ?_
   refine ns ?_
   refine nw ?_
   refine Zi hF (fun ZC1 hF => ?_) (fun ZC1 hF => ?_)
   ·refine ns ?_
    refine ZmJ (m := Za4) (k := x73.fName) (v := x73.fType) ZfO (ev := Za.cells) (ZdW (Za.cells_eq x73.fType) (lc (lc (lc (lc Zn))))) ?_
    refine st ?_
    refine ns ?_
    refine AWL.weak (rn []) ?_ (Zja s (Zfz + 1) t (ZgY Za4 x73.fName x73.fType) ZqT _ hF (ZfM ++ [x73]) (by rw [Zli]; simp) (by rw [ZkE]; simp) hlen45)
    exact (WS.mk (tp (tp (tc (tc (tc (Zd (Zq (Zc0 (ZP hlen45 Zzv))) Zb)))))) (Zf rfl (cc (cc (cc (cc Zg)))) (Zf rfl (cc (cc (cc (cc Zg)))) (Zf rfl (cc Zg) Zc))))
   ·refine nw ?_
    refine ns ?_
    refine AWL.weak (rn []) ?_ (Zja s (Zfz + 1) t Za4 ZqT _ hF (ZfM ++ [x73]) (by rw [Zli]; simp) (by rw [ZkE]; simp) hlen45)
    exact (WS.mk (tp (tp (tc (tc (tc (Zd (Zq (Zc0 (ZP hlen45 Zzv))) Zb)))))) (Zf rfl (cc (cc (cc (cc Zg)))) (Zf rfl (cc (cc (cc (cc Zg)))) (Zf rfl (cc Zg) Zc))))
 ·subst ZvG
  refine nw ?_
  refine AWP.seq ?_
  refine AWP.seq ?_
  obtain ⟨r89, ZBo, hF⟩ := bind_some hF
  refine ns ?_
  refine Exists.intro [] (Exists.intro [(16, 1000)] (Exists.intro [] ?_))
  refine st ?_
  refine cm (Zk.weak (rn []) (Zkd Za4 t _ ZBo) rfl (WS.mk (tc (Zd (Zp (lc (lc (lc (lc Zn))))) Zb)) (Zf rfl (cc Zg) Zc))) ?_
  refine st ?_
  refine AWP.seq ?_
  refine AWP.cutN (fun T => ∃ r, WS r T ⟨[(3, .ptr 3 0), (4, .ptr 4 0), (5, .c none (.rf 16)), (60, .c none (.v (.bool ((decide (r89.1 > 20000)) || (decide (r89.2 > 100))))))], [(3, [(none, .v (.int .i64 t.fOp)), (none, .v (.string t.fName)), (none, .sl (t.fBound.fArgs.map Zj.cells)), (none, .sl (t.fKids.map Za.cells))]), (4, [(none, .v (.int .i64 0)), (none, .v (.string (ByteArray.mk #[]))), (none, .nils), (none, .nils)]), (16, [(none, .ob 183 (Za4.map (Zdx c_S Za.cells)))])]⟩) ?_ (fun T hw => ?_)
  ·refine ns ?_
   refine Zl false (fun ZvF => ?_) (fun ZvF => ?_)
   ·(conv => whnf)
    refine st ?_
    exact wx (WS.mk (tp (tp (tc (Zd (Zq (web ZvF)) Zb)))) (Zf rfl (cc (cc (cc (cc Zg)))) (Zf rfl (cc (cc (cc (cc Zg)))) (Zf rfl (cc Zg) Zc))))
   ·(conv => whnf)
    refine st ?_
    exact wx (WS.mk (tp (tp (tc (Zd (Zq (web ZvF)) Zb)))) (Zf rfl (cc (cc (cc (cc Zg)))) (Zf rfl (cc (cc (cc (cc Zg)))) (Zf rfl (cc Zg) Zc))))
  obtain ⟨r0, hw⟩ := hw
  (conv => whnf)
  refine AWP.weak r0 hw ?_
  refine nw ?_
  refine Zi hF (fun ZDc hF => ?_) (fun ZDc hF => ?_)
  ·refine AWP.seq ?_
   refine ns ?_
   obtain rfl := Zh hF
   refine ns ?_
   refine Exists.intro [] ?_
   refine st ?_
   exact wx (WS.mk (Zd (Zp (lc (lc (ZaE WE.nil (ZaE WE.nil Zn))))) Zb) Zc)
  ·refine nw ?_
   refine AWP.seq ?_
   obtain ⟨r92, Zyo, hF⟩ := bind_some hF
   refine ns ?_
   refine Exists.intro [] (Exists.intro [(16, 1000)] (Exists.intro [] ?_))
   refine st ?_
   refine cm (Zk.weak (rn []) (Zmj Za4 t _ Zyo) rfl (WS.mk (tc (Zd (Zp (lc (lc (lc (lc Zn))))) Zb)) (Zf rfl (cc Zg) Zc))) ?_
   refine st ?_
   obtain rfl := Zh hF
   refine ns ?_
   refine Exists.intro [] ?_
   refine st ?_
   exact wx (WS.mk (Zd (Zp (lc (lc (lc (lc Zn))))) Zb) Zc)

def ZdZ (s : (List Ze)) (t : Za) : Option (Za) :=
 Zbt t >>= fun r3 =>
 if (r3 != 0) = true then
 some (Za.mk 0 (ByteArray.mk #[]) (Zj.mk ([] : List Zj)) ([] : List Za))
 else
 ZbP s 0 t ([] : List (ByteArray × Za)) s
def ZdZ.M (s : (List Ze)) (t : Za) (r : Za) : Prop :=
 Zk Tryz.prog 44 [.c none (.sl (s.map Ze.cells)), .agg [.v (.int .i64 t.fOp), .v (.string t.fName), .sl (t.fBound.fArgs.map Zj.cells), .sl (t.fKids.map Za.cells)]] [] (fun d b => d = .agg [.v (.int .i64 r.fOp), .v (.string r.fName), .sl (r.fBound.fArgs.map Zj.cells), .sl (r.fKids.map Za.cells)] ∧ b = [])
theorem ZpJ (s : (List Ze)) (t : Za) (r : Za) (hF : ZdZ s t = some r) : ZdZ.M s t r := by
 unfold ZdZ at hF
 unfold ZdZ.M
 refine en Tryz.func44 ?_
 refine AWP.seq ?_
 refine ns ?_
 refine AWP.seq ?_
 refine AWP.seq ?_
 obtain ⟨r3, hr3, hF⟩ := bind_some hF
 refine ns ?_
 refine e3 ?_
 refine st ?_
 refine cm (Zk.weak (rn []) (ZdJ t _ hr3) rfl (WS.mk (Zd (Zp (lc (lc (lc (lc Zn))))) Zb) Zc)) ?_
 refine st ?_
 refine nw ?_
 refine Zi hF (fun hc4 hF => ?_) (fun hc4 hF => ?_)
 ·refine AWP.seq ?_
  refine ns ?_
  obtain rfl := Zh hF
  refine ns ?_
  refine Exists.intro [] ?_
  refine st ?_
  exact wx (WS.mk (Zd (Zp (lc (lc (ZaE WE.nil (ZaE WE.nil Zn))))) Zb) Zc)
 ·refine nw ?_
  refine AWP.seq ?_
  refine ns ?_
  refine AWP.seq ?_
  refine AWP.seq ?_
  refine ns ?_
  intro hlen45
  (try rw [List.length_map] at hlen45)
  (try rw [List.length_map])
  refine st ?_
  refine AWP.block ?_
  refine AWP.loop ?_
  refine AWL.weak (rn []) ?_ (ZnS s 0 t ([] : List (ByteArray × Za)) s _ hF ([]) rfl rfl hlen45)
  exact (WS.mk (tp (tp (tc (tc (tc (tc Zb)))))) (Zf rfl (cc (cc (cc (cc Zg)))) (Zf rfl (cc (cc (cc (cc Zg)))) (Zf rfl (cc Zg) Zc))))

def Zbm (s : (List Ze)) (name_ : ByteArray) (i_6 : Nat) (ZeX : (List Ze)) : Option (Za × Bool) :=
 (match ZeX with
 | x39 :: Zvi =>
 if (x39.fName.toList == name_.toList) = true then
 some (x39.fType, true)
 else
 Zbm s name_ (i_6 + 1) Zvi
 | [] =>
 some (Za.mk 0 (ByteArray.mk #[]) (Zj.mk ([] : List Zj)) ([] : List Za), false))
 partial_fixpoint
def Zbm.M (s : (List Ze)) (name_ : ByteArray) (i_6 : Nat) (ZeX : (List Ze)) (r : Za × Bool) : Prop :=
 ∀ ZiD : List Ze, s = ZiD ++ ZeX → i_6 = ZiD.length → AWL Tryz.prog 26 (Code.sub (Zr Tryz.f61) [1, 0, 1, 0, 0]) (Code.cont Tryz.prog 26 (Zr Tryz.f61) [1, 0, 1, 0] (ZbV tab Tryz.f61.results (Zb0 (.tup [.agg [.v (.int .i64 r.1.fOp), .v (.string r.1.fName), .sl (r.1.fBound.fArgs.map Zj.cells), .sl (r.1.fKids.map Za.cells)], .c (.v (.bool r.2))]) []))) ⟨[(0, .c none (.sl (s.map Ze.cells))), (1, .c none (.v (.string name_))), (4, .ptr 4 0), (6, .c none (.v (.int .i64 ((i_6 : Nat) : Int))))], [(4, [(none, .v (.int .i64 0)), (none, .v (.string (ByteArray.mk #[]))), (none, .nils), (none, .nils)])]⟩
theorem ZlE (s : (List Ze)) (name_ : ByteArray) (i_6 : Nat) (ZeX : (List Ze)) : ∀ r, Zbm s name_ i_6 ZeX = some r → Zbm.M s name_ i_6 ZeX r := by
 refine Zbm.partial_correctness s name_ (fun i_6 ZeX r => Zbm.M s name_ i_6 ZeX r) ?_ i_6 ZeX
 intro lazycref04_Find_l1' Zg9 i_6 ZeX r hF
 have ZlP := fun (_s : (List Ze)) (_name_ : ByteArray) (i_6 : Nat) (ZeX : (List Ze)) => Zg9 i_6 ZeX
 clear Zg9
 unfold Zbm.M
 intro ZiD Zq9 Zqn
 refine AWL.step ?_
 refine AWP.seq ?_
 refine AWP.seq ?_
 refine ns ?_
 intro hlen38
 (try rw [List.length_map] at hlen38)
 (try rw [List.length_map])
 refine st ?_
 refine nw ?_
 refine ZF Zq9 Zqn (fun x39 Zvi Zv3 ZAF ZBs => ?_) (fun Zv3 => ?_)
 ·subst Zv3
  refine nw ?_
  refine AWP.seq ?_
  refine AWP.block ?_
  refine AWP.seq ?_
  refine nn ?_
  refine sr (ZX (f := Ze.cells) (Ze.cells_eq x39) ZAF) ?_
  refine st ?_
  refine nw ?_
  refine Zi hF (fun Zp3 hF => ?_) (fun Zp3 hF => ?_)
  ·refine AWP.seq ?_
   refine nn ?_
   refine sr (ZX (f := Ze.cells) (Ze.cells_eq x39) ZAF) ?_
   refine st ?_
   obtain rfl := Zh hF
   refine ns ?_
   refine Exists.intro [] ?_
   refine st ?_
   exact wx (WS.mk (Zd (Zca (ZzV (lc (lc (lc (lc Zn)))) (ZbI (WE.refl _) Zb8))) Zb) Zc)
  ·refine nw ?_
   refine ns ?_
   refine AWL.weak (rn []) ?_ (ZlP s name_ (i_6 + 1) Zvi _ hF (ZiD ++ [x39]) (by rw [Zq9]; simp) (by rw [Zqn]; simp))
   exact (WS.mk (tc (tc (tp (Zd (Zq (Zc0 (ZP hlen38 ZBs))) Zb)))) (Zf rfl (cc (cc (cc (cc Zg)))) Zc))
 ·subst Zv3
  refine nw ?_
  refine AWP.seq ?_
  refine ns ?_
  obtain rfl := Zh hF
  refine ns ?_
  refine Exists.intro [] ?_
  refine st ?_
  exact wx (WS.mk (Zd (Zca (ZzV (lc (lc (ZaE WE.nil (ZaE WE.nil Zn)))) (ZbI (WE.refl _) Zb8))) Zb) Zc)

def ZbO (s : (List Ze)) (name_ : ByteArray) : Option (Za × Bool) :=
 Zbm s name_ 0 s
def ZbO.M (s : (List Ze)) (name_ : ByteArray) (r : Za × Bool) : Prop :=
 Zk Tryz.prog 61 [.c none (.sl (s.map Ze.cells)), .c none (.v (.string name_))] [] (fun d b => d = .tup [.agg [.v (.int .i64 r.1.fOp), .v (.string r.1.fName), .sl (r.1.fBound.fArgs.map Zj.cells), .sl (r.1.fKids.map Za.cells)], .c (.v (.bool r.2))] ∧ b = [])
theorem ZgB (s : (List Ze)) (name_ : ByteArray) (r : Za × Bool) (hF : ZbO s name_ = some r) : ZbO.M s name_ r := by
 unfold ZbO at hF
 unfold ZbO.M
 refine en Tryz.func61 ?_
 refine AWP.seq ?_
 refine ns ?_
 refine AWP.seq ?_
 refine AWP.seq ?_
 refine ns ?_
 refine AWP.block ?_
 refine AWP.loop ?_
 refine AWL.weak (rn []) ?_ (ZlE s name_ 0 s _ hF ([]) rfl rfl)
 exact (WS.mk (tc (tc (tp (tc Zb)))) (Zf rfl (cc (cc (cc (cc Zg)))) Zc))

mutual
def Zas (s : (List Ze)) (Z4 : (List ByteArray)) (t : Za) : Option (Int × Int) :=
 (if (t.fOp == 1) = true then Zch Z4 t.fName >>= fun r53 =>
 some (!r53) else some false) >>= fun c54 =>
 if c54 = true then
 ZbO s t.fName >>= fun r57 =>
 if r57.2 = true then
 Zay r57.1 >>= fun r61 =>
 Zax r57.1 >>= fun r62 =>
 some (r61, r62)
 else
 Zak s Z4 t
 else
 Zak s Z4 t
 partial_fixpoint
def Zak (s : (List Ze)) (Z4 : (List ByteArray)) (t : Za) : Option (Int × Int) :=
 if (t.fOp == 4) = true then
 ZV ((0 + Z4.length) * 16 ≤ 140737488355328) >>= fun _ =>
 ZV ((Z4.length + ([t.fName]).length) * 16 ≤ 140737488355328) >>= fun _ =>
 Zai s (Z4 ++ ([t.fName])) t
 else
 Zai s Z4 t
 partial_fixpoint
def Zai (s : (List Ze)) (ZM : (List ByteArray)) (t : Za) : Option (Int × Int) :=
 ZY s ZM 1 0 0 t t.fKids
 partial_fixpoint
def ZY (s : (List Ze)) (ZM : (List ByteArray)) (Zfd : Int) (ZdH : Int) (Zh8 : Nat) (t : Za) (ZdD : (List Za)) : Option (Int × Int) :=
 (match ZdD with
 | x46 :: ZB9 =>
 Zas s ZM x46 >>= fun r49 =>
 ZY s ZM (IntKind.i64.wrap (Zfd + r49.1)) (if r49.2 > ZdH then r49.2 else ZdH) (Zh8 + 1) t ZB9
 | [] =>
 some (Zfd, IntKind.i64.wrap (ZdH + 1)))
 partial_fixpoint
end
def Zas.M (s : (List Ze)) (Z4 : (List ByteArray)) (t : Za) (r : Int × Int) : Prop :=
 Zk Tryz.prog 38 [.c none (.sl (s.map Ze.cells)), .c none (.sl (Z4.map c_S)), .agg [.v (.int .i64 t.fOp), .v (.string t.fName), .sl (t.fBound.fArgs.map Zj.cells), .sl (t.fKids.map Za.cells)]] [] (fun d b => d = .tup [.c (.v (.int .i64 r.1)), .c (.v (.int .i64 r.2))] ∧ b = [])
def Zak.M (s : (List Ze)) (Z4 : (List ByteArray)) (t : Za) (r : Int × Int) : Prop :=
 AWP Tryz.prog 77 (Code.sub (Zr Tryz.f38) [1, 1]) (Code.cont Tryz.prog 77 (Zr Tryz.f38) [1, 1] (ZbV tab Tryz.f38.results (Zb0 (.tup [.c (.v (.int .i64 r.1)), .c (.v (.int .i64 r.2))]) []))) ⟨[(0, .c none (.sl (s.map Ze.cells))), (1, .c none (.sl (Z4.map c_S))), (5, .ptr 5 0)], [(5, [(none, .v (.int .i64 t.fOp)), (none, .v (.string t.fName)), (none, .sl (t.fBound.fArgs.map Zj.cells)), (none, .sl (t.fKids.map Za.cells))])]⟩
def Zai.M (s : (List Ze)) (ZM : (List ByteArray)) (t : Za) (r : Int × Int) : Prop :=
 AWP Tryz.prog 77 (Code.sub (Zr Tryz.f38) [1, 1, 1]) (Code.cont Tryz.prog 77 (Zr Tryz.f38) [1, 1, 1] (ZbV tab Tryz.f38.results (Zb0 (.tup [.c (.v (.int .i64 r.1)), .c (.v (.int .i64 r.2))]) []))) ⟨[(0, .c none (.sl (s.map Ze.cells))), (1, .c none (.sl (ZM.map c_S))), (5, .ptr 5 0)], [(5, [(none, .v (.int .i64 t.fOp)), (none, .v (.string t.fName)), (none, .sl (t.fBound.fArgs.map Zj.cells)), (none, .sl (t.fKids.map Za.cells))])]⟩
def ZY.M (s : (List Ze)) (ZM : (List ByteArray)) (Zfd : Int) (ZdH : Int) (Zh8 : Nat) (t : Za) (ZdD : (List Za)) (r : Int × Int) : Prop :=
 ∀ Zhk : List Za, t.fKids = Zhk ++ ZdD → Zh8 = Zhk.length → AWL Tryz.prog 77 (Code.sub (Zr Tryz.f38) [1, 1, 1, 1, 0, 1, 0, 0]) (Code.cont Tryz.prog 77 (Zr Tryz.f38) [1, 1, 1, 1, 0, 1, 0] (ZbV tab Tryz.f38.results (Zb0 (.tup [.c (.v (.int .i64 r.1)), .c (.v (.int .i64 r.2))]) []))) ⟨[(0, .c none (.sl (s.map Ze.cells))), (1, .c none (.sl (ZM.map c_S))), (5, .ptr 5 0), (11, .c none (.v (.int .i64 Zfd))), (12, .c none (.v (.int .i64 ZdH))), (13, .c none (.v (.int .i64 ((Zh8 : Nat) : Int))))], [(5, [(none, .v (.int .i64 t.fOp)), (none, .v (.string t.fName)), (none, .sl (t.fBound.fArgs.map Zj.cells)), (none, .sl (t.fKids.map Za.cells))])]⟩
theorem Zlp (s : (List Ze)) : (∀ (Z4 : (List ByteArray)) (t : Za), ∀ r, Zas s Z4 t = some r → Zas.M s Z4 t r) ∧ (∀ (Z4 : (List ByteArray)) (t : Za), ∀ r, Zak s Z4 t = some r → Zak.M s Z4 t r) ∧ (∀ (ZM : (List ByteArray)) (t : Za), ∀ r, Zai s ZM t = some r → Zai.M s ZM t r) ∧ (∀ (ZM : (List ByteArray)) (Zfd : Int) (ZdH : Int) (Zh8 : Nat) (t : Za) (ZdD : (List Za)), ∀ r, ZY s ZM Zfd ZdH Zh8 t ZdD = some r → ZY.M s ZM Zfd ZdH Zh8 t ZdD r) := by
 refine Zas.mutual_partial_correctness s (fun Z4 t r => Zas.M s Z4 t r) (fun Z4 t r => Zak.M s Z4 t r) (fun ZM t r => Zai.M s ZM t r) (fun ZM Zfd ZdH Zh8 t ZdD r => ZY.M s ZM Zfd ZdH Zh8 t ZdD r) ?_ ?_ ?_ ?_
 ·intro lazycref04_measure_k1' ZfY Z4 t r hF
  have Zgd := fun (_s : (List Ze)) (Z4 : (List ByteArray)) (t : Za) => ZfY Z4 t
  clear ZfY
  unfold Zas.M
  refine en Tryz.func38 ?_
  refine AWP.seq ?_
  refine ns ?_
  refine AWP.seq ?_
  refine AWP.seq ?_
  obtain ⟨c54, ZeS, hF⟩ := bind_some hF
  refine AWP.cutN (fun T => ∃ r, WS r T ⟨[(0, .c none (.sl (s.map Ze.cells))), (1, .c none (.sl (Z4.map c_S))), (5, .ptr 5 0), (25, .c none (.v (.bool c54)))], [(5, [(none, .v (.int .i64 t.fOp)), (none, .v (.string t.fName)), (none, .sl (t.fBound.fArgs.map Zj.cells)), (none, .sl (t.fKids.map Za.cells))])]⟩) ?_ (fun T hw => ?_)
  ·refine ns ?_
   refine Zl true (fun ZnA => ?_) (fun ZnA => ?_)
   ·have ZeS := ift ZnA ZeS
    obtain ⟨r53, Zyk, ZeS⟩ := bind_some ZeS
    (conv => whnf)
    refine st ?_
    refine e3 ?_
    refine st ?_
    refine cm (Zk.weak (rn []) (Zew Z4 t.fName _ Zyk) rfl (WS.mk (tc (tc Zb)) Zc)) ?_
    refine st ?_
    obtain rfl := Zh ZeS
    refine st ?_
    exact wx (WS.mk (tc (tc (tp (Zd (Zq (web ZnA)) Zb)))) (Zf rfl (cc (cc (cc (cc Zg)))) Zc))
   ·have ZeS := ife ZnA ZeS
    (conv => whnf)
    obtain rfl := Zh ZeS
    refine st ?_
    exact wx (WS.mk (tc (tc (tp (Zd (Zq (web ZnA)) Zb)))) (Zf rfl (cc (cc (cc (cc Zg)))) Zc))
  obtain ⟨r0, hw⟩ := hw
  (conv => whnf)
  refine AWP.weak r0 hw ?_
  refine nw ?_
  refine Zi hF (fun ZiJ hF => ?_) (fun ZiJ hF => ?_)
  ·refine AWP.seq ?_
   obtain ⟨r57, ZFP, hF⟩ := bind_some hF
   refine ns ?_
   refine e3 ?_
   refine st ?_
   refine cm (Zk.weak (rn []) (ZgB s t.fName _ ZFP) rfl (WS.mk (tc (tc Zb)) Zc)) ?_
   refine st ?_
   refine AWP.seq ?_
   refine ns ?_
   refine nw ?_
   refine Zi hF (fun ZnK hF => ?_) (fun ZnK hF => ?_)
   ·refine AWP.seq ?_
    obtain ⟨r61, ZzU, hF⟩ := bind_some hF
    obtain ⟨r62, ZB5, hF⟩ := bind_some hF
    refine nn ?_
    refine Or.inl (Or.inr (Exists.intro [2] (Exists.intro [[36]] (Exists.intro [8] (Exists.intro [8, 36] (Exists.intro [36] (Exists.intro [0, 1, 3, 4, 5] (And.intro (by decide +kernel) ?_))))))))
    refine dp ?_
    refine st ?_
    refine e3 ?_
    refine st ?_
    refine cm (Zk.weak (rn []) (ZgF r57.1 _ ZzU) rfl (WS.mk (Zd (Zp (lc (lc (lc (lc Zn))))) Zb) Zc)) ?_
    refine st ?_
    refine e3 ?_
    refine st ?_
    refine cm (Zk.weak (rn []) (Zf6 r57.1 _ ZB5) rfl (WS.mk (Zd (Zp (lc (lc (lc (lc Zn))))) Zb) Zc)) ?_
    refine st ?_
    obtain rfl := Zh hF
    refine ns ?_
    refine Exists.intro [] ?_
    refine st ?_
    exact wx (WS.mk (Zd (Zca (ZbI (WE.refl _) (ZbI (WE.refl _) Zb8))) Zb) Zc)
   ·refine nw ?_
    refine AWP.weak (rn []) ?_ (Zgd s Z4 t _ hF)
    exact (WS.mk (tc (tc (tp Zb))) (Zf rfl (cc (cc (cc (cc Zg)))) Zc))
  ·refine nw ?_
   refine AWP.weak (rn []) ?_ (Zgd s Z4 t _ hF)
   exact (WS.mk (tc (tc (tp Zb))) (Zf rfl (cc (cc (cc (cc Zg)))) Zc))
 ·intro lazycref04_measure_k2' ZfW Z4 t r hF
  have Zgo := fun (_s : (List Ze)) (ZM : (List ByteArray)) (t : Za) => ZfW ZM t
  clear ZfW
  unfold Zak.M
  refine AWP.seq ?_
  refine AWP.seq ?_
  refine ns ?_
  refine nw ?_
  refine Zi hF (fun ZDf hF => ?_) (fun ZDf hF => ?_)
  ·refine AWP.seq ?_
   refine ns ?_
   refine AWP.seq ?_
   obtain ⟨ZFy, hF⟩ := Zv hF
   refine nn ?_
   refine sa (fun l => ZbH l (fun x => Zfv x)) ZFy ?_
   refine Exists.intro _ (And.intro (WE.refl _) ?_)
   (try rw [List.nil_append])
   refine st ?_
   refine AWP.seq ?_
   obtain ⟨ZGE, hF⟩ := Zv hF
   refine ns ?_
   refine Exists.intro _ (And.intro (Zcb (f := c_S) (lc Zn) (Zap (f := c_S))) ?_)
   refine sa (fun l => ZbH l (fun x => Zfv x)) ZGE ?_
   refine Exists.intro _ (And.intro (WE.refl _) ?_)
   rw [← List.map_append]
   refine st ?_
   refine ns ?_
   refine AWP.weak (rn []) ?_ (Zgo s (Z4 ++ ([t.fName])) t _ hF)
   exact (WS.mk (tc (tc (tp Zb))) (Zf rfl (cc (cc (cc (cc Zg)))) Zc))
  ·refine nw ?_
   refine AWP.weak (rn []) ?_ (Zgo s Z4 t _ hF)
   exact (WS.mk (tc (tc (tp Zb))) (Zf rfl (cc (cc (cc (cc Zg)))) Zc))
 ·intro lazycref04_measure_l3' ZcS ZM t r hF
  have ZeH := fun (_s : (List Ze)) (ZM : (List ByteArray)) (Zfd : Int) (ZdH : Int) (Zh8 : Nat) (t : Za) (ZdD : (List Za)) => ZcS ZM Zfd ZdH Zh8 t ZdD
  clear ZcS
  unfold Zai.M
  refine AWP.seq ?_
  refine ns ?_
  refine AWP.seq ?_
  refine AWP.seq ?_
  refine ns ?_
  refine AWP.block ?_
  refine AWP.loop ?_
  refine AWL.weak (rn []) ?_ (ZeH s ZM 1 0 0 t t.fKids _ hF ([]) rfl rfl)
  exact (WS.mk (tc (tc (tp (tc (tc (tc Zb)))))) (Zf rfl (cc (cc (cc (cc Zg)))) Zc))
 ·intro lazycref04_measure' lazycref04_measure_l3' Zhe ZcS ZM Zfd ZdH Zh8 t ZdD r hF
  have ZlG := fun (_s : (List Ze)) (Z4 : (List ByteArray)) (t : Za) => Zhe Z4 t
  clear Zhe
  have ZeH := fun (_s : (List Ze)) (ZM : (List ByteArray)) (Zfd : Int) (ZdH : Int) (Zh8 : Nat) (t : Za) (ZdD : (List Za)) => ZcS ZM Zfd ZdH Zh8 t ZdD
  clear ZcS
  unfold ZY.M
  intro Zhk ZoG Zos
  refine AWL.step ?_
  refine AWP.seq ?_
  refine AWP.seq ?_
  refine ns ?_
  intro hlen45
  (try rw [List.length_map] at hlen45)
  (try rw [List.length_map])
  refine st ?_
  refine nw ?_
  refine ZF ZoG Zos (fun x46 ZB9 ZBT ZFT ZGW => ?_) (fun ZBT => ?_)
  ·subst ZBT
   refine nw ?_
   refine AWP.seq ?_
   refine AWP.block ?_
   refine AWP.seq ?_
   obtain ⟨r49, ZFX, hF⟩ := bind_some hF
   refine nn ?_
   refine sr (ZX (f := Za.cells) (Za.cells_eq x46) ZFT) ?_
   refine st ?_
   refine e3 ?_
   refine st ?_
   refine cm (Zk.weak (rn []) (ZlG s ZM x46 _ ZFX) rfl (WS.mk (tc (tc (Zd (Zp (lc (lc (lc (lc Zn))))) Zb))) Zc)) ?_
   refine st ?_
   refine AWP.seq ?_
   refine ns ?_
   refine ns ?_
   refine ns ?_
   refine AWL.weak (rn []) ?_ (ZeH s ZM (IntKind.i64.wrap (Zfd + r49.1)) (if r49.2 > ZdH then r49.2 else ZdH) (Zh8 + 1) t ZB9 _ hF (Zhk ++ [x46]) (by rw [ZoG]; simp) (by rw [Zos]; simp))
   exact (WS.mk (tc (tc (tp (tc (tc (Zd (Zq (Zc0 (ZP hlen45 ZGW))) Zb)))))) (Zf rfl (cc (cc (cc (cc Zg)))) Zc))
  ·subst ZBT
   refine nw ?_
   refine AWP.seq ?_
   refine ns ?_
   obtain rfl := Zh hF
   refine ns ?_
   refine Exists.intro [] ?_
   refine st ?_
   exact wx (WS.mk (Zd (Zca (ZbI (WE.refl _) (ZbI (WE.refl _) Zb8))) Zb) Zc)
theorem Zly : ∀ (s : (List Ze)) (Z4 : (List ByteArray)) (t : Za), ∀ r, Zas s Z4 t = some r → Zas.M s Z4 t r := fun s Z4 t => (Zlp s).1 Z4 t

def ZbK (avoid : (List ByteArray)) (b_5 : ByteArray) (k_8 : Nat) : Option (ByteArray) :=
 ZdR b_5 ((k_8 : Nat) : Int) >>= fun r39 =>
 Zch avoid r39 >>= fun r40 =>
 if r40 = true then
 ZV (k_8 + 1 ≤ 9223372036854775807) >>= fun _ =>
 ZbK avoid b_5 (k_8 + 1)
 else
 ZdR b_5 ((k_8 : Nat) : Int) >>= fun r43 =>
 some r43
 partial_fixpoint
def ZbK.M (avoid : (List ByteArray)) (b_5 : ByteArray) (k_8 : Nat) (r : ByteArray) : Prop :=
 AWL Tryz.prog 28 (Code.sub (Zr Tryz.f63) [1, 1, 1, 1, 0, 0, 0]) (Code.cont Tryz.prog 28 (Zr Tryz.f63) [1, 1, 1, 1, 0, 0] (ZbV tab Tryz.f63.results (Zb0 (.c none (.v (.string r))) []))) ⟨[(1, .c none (.sl (avoid.map c_S))), (5, .c none (.v (.string b_5))), (8, .c none (.v (.int .i64 ((k_8 : Nat) : Int))))], []⟩
theorem ZjN (avoid : (List ByteArray)) (b_5 : ByteArray) (k_8 : Nat) : ∀ r, ZbK avoid b_5 k_8 = some r → ZbK.M avoid b_5 k_8 r := by
 refine ZbK.partial_correctness avoid b_5 (fun k_8 r => ZbK.M avoid b_5 k_8 r) ?_ k_8
 intro lazycref04_Renamed_l2' Zf0 k_8 r hF
 have ZjM := fun (_avoid : (List ByteArray)) (_b_5 : ByteArray) (k_8 : Nat) => Zf0 k_8
 clear Zf0
 unfold ZbK.M
 refine AWL.step ?_
 refine AWP.seq ?_
 refine AWP.seq ?_
 obtain ⟨r39, ZFN, hF⟩ := bind_some hF
 obtain ⟨r40, ZFQ, hF⟩ := bind_some hF
 refine ns ?_
 refine e3 ?_
 refine st ?_
 refine cm (Zk.weak (rn []) (Zjb b_5 ((k_8 : Nat) : Int) _ ZFN) rfl (WS.mk (tc (tc Zb)) Zc)) ?_
 refine st ?_
 refine e3 ?_
 refine st ?_
 refine cm (Zk.weak (rn []) (Zew avoid r39 _ ZFQ) rfl (WS.mk (tc (tc Zb)) Zc)) ?_
 refine st ?_
 refine nw ?_
 refine Zi hF (fun ZvT hF => ?_) (fun ZvT hF => ?_)
 ·refine nw ?_
  refine AWP.block ?_
  obtain ⟨ZGa, hF⟩ := Zv hF
  refine ns ?_
  refine AWL.weak (rn []) ?_ (ZjM avoid b_5 (k_8 + 1) _ hF)
  exact (WS.mk (tc (tc (Zd (Zq (Zc0 (ZcZ ZGa))) Zb))) Zc)
 ·refine nw ?_
  refine AWP.seq ?_
  obtain ⟨r43, ZDu, hF⟩ := bind_some hF
  refine ns ?_
  refine e3 ?_
  refine st ?_
  refine cm (Zk.weak (rn []) (Zjb b_5 ((k_8 : Nat) : Int) _ ZDu) rfl (WS.mk (tc (tc Zb)) Zc)) ?_
  refine st ?_
  obtain rfl := Zh hF
  refine ns ?_
  refine Exists.intro [] ?_
  refine st ?_
  exact wx (WS.mk (tc Zb) Zc)

def Zcu (avoid : (List ByteArray)) (b_5 : ByteArray) : Option (ByteArray) :=
 ZbK avoid b_5 1
def Zcu.M (avoid : (List ByteArray)) (b_5 : ByteArray) (r : ByteArray) : Prop :=
 AWP Tryz.prog 28 (Code.sub (Zr Tryz.f63) [1, 1, 1]) (Code.cont Tryz.prog 28 (Zr Tryz.f63) [1, 1, 1] (ZbV tab Tryz.f63.results (Zb0 (.c none (.v (.string r))) []))) ⟨[(1, .c none (.sl (avoid.map c_S))), (5, .c none (.v (.string b_5)))], []⟩
theorem Zgc (avoid : (List ByteArray)) (b_5 : ByteArray) (r : ByteArray) (hF : Zcu avoid b_5 = some r) : Zcu.M avoid b_5 r := by
 unfold Zcu at hF
 unfold Zcu.M
 refine AWP.seq ?_
 refine ns ?_
 refine AWP.seq ?_
 refine AWP.block ?_
 refine AWP.loop ?_
 refine AWL.weak (rn []) ?_ (ZjN avoid b_5 1 _ hF)
 exact (WS.mk (tc (tc (tc Zb))) Zc)

def Zdz (name_ : ByteArray) (avoid : (List ByteArray)) : Option (ByteArray) :=
 ZcH name_ >>= fun r1 =>
 if (!r1.2.2) = true then
 Zcu avoid name_
 else
 Zcu avoid r1.1
def Zdz.M (name_ : ByteArray) (avoid : (List ByteArray)) (r : ByteArray) : Prop :=
 Zk Tryz.prog 63 [.c none (.v (.string name_)), .c none (.sl (avoid.map c_S))] [] (fun d b => d = .c none (.v (.string r)) ∧ b = [])
theorem ZlF (name_ : ByteArray) (avoid : (List ByteArray)) (r : ByteArray) (hF : Zdz name_ avoid = some r) : Zdz.M name_ avoid r := by
 unfold Zdz at hF
 unfold Zdz.M
 refine en Tryz.func63 ?_
 refine AWP.seq ?_
 refine ns ?_
 refine AWP.seq ?_
 obtain ⟨r1, hr1, hF⟩ := bind_some hF
 refine ns ?_
 refine e3 ?_
 refine st ?_
 refine cm (Zk.weak (rn []) (ZgH name_ _ hr1) rfl (WS.mk (tc Zb) Zc)) ?_
 refine st ?_
 refine AWP.seq ?_
 refine AWP.seq ?_
 refine ns ?_
 refine nw ?_
 refine Zi hF (fun ZBH hF => ?_) (fun ZBH hF => ?_)
 ·refine ns ?_
  refine AWP.weak (rn []) ?_ (Zgc avoid name_ _ hF)
  exact (WS.mk (tc (tc Zb)) Zc)
 ·refine nw ?_
  refine AWP.weak (rn []) ?_ (Zgc avoid r1.1 _ hF)
  exact (WS.mk (tc (tc Zb)) Zc)

def ZeZ (name_ : ByteArray) : Option (Za) :=
 some (Za.mk 1 name_ (Zj.mk ([] : List Zj)) ([] : List Za))
def ZeZ.M (name_ : ByteArray) (r : Za) : Prop :=
 Zk Tryz.prog 64 [.c none (.v (.string name_))] [] (fun d b => d = .agg [.v (.int .i64 r.fOp), .v (.string r.fName), .sl (r.fBound.fArgs.map Zj.cells), .sl (r.fKids.map Za.cells)] ∧ b = [])
theorem Zow (name_ : ByteArray) (r : Za) (hF : ZeZ name_ = some r) : ZeZ.M name_ r := by
 unfold ZeZ at hF
 unfold ZeZ.M
 refine en Tryz.func64 ?_
 refine AWP.seq ?_
 refine ns ?_
 refine AWP.seq ?_
 refine ns ?_
 obtain rfl := Zh hF
 refine ns ?_
 refine Exists.intro [] ?_
 refine st ?_
 exact wx (WS.mk (Zd (Zp (lc (lc (ZaE WE.nil (ZaE WE.nil Zn))))) Zb) Zc)

def Zeh (f : Za) (x : Za) : Option (Za) :=
 some (Za.mk 3 (ByteArray.mk #[]) (Zj.mk ([] : List Zj)) ([f, x]))
def Zeh.M (f : Za) (x : Za) (r : Za) : Prop :=
 Zk Tryz.prog 62 [.agg [.v (.int .i64 f.fOp), .v (.string f.fName), .sl (f.fBound.fArgs.map Zj.cells), .sl (f.fKids.map Za.cells)], .agg [.v (.int .i64 x.fOp), .v (.string x.fName), .sl (x.fBound.fArgs.map Zj.cells), .sl (x.fKids.map Za.cells)]] [] (fun d b => d = .agg [.v (.int .i64 r.fOp), .v (.string r.fName), .sl (r.fBound.fArgs.map Zj.cells), .sl (r.fKids.map Za.cells)] ∧ b = [])
theorem Zn5 (f : Za) (x : Za) (r : Za) (hF : Zeh f x = some r) : Zeh.M f x r := by
 unfold Zeh at hF
 unfold Zeh.M
 refine en Tryz.func62 ?_
 refine AWP.seq ?_
 refine ns ?_
 refine AWP.seq ?_
 refine ns ?_
 refine Exists.intro _ (And.intro (Zcb (f := Za.cells) (ZdW (Za.cells_eq f) (lc (lc (lc (lc Zn))))) (Zcb (f := Za.cells) (ZdW (Za.cells_eq x) (lc (lc (lc (lc Zn))))) (Zap (f := Za.cells)))) ?_)
 refine st ?_
 obtain rfl := Zh hF
 refine ns ?_
 refine Exists.intro [] ?_
 refine st ?_
 exact wx (WS.mk (Zd (Zp (lc (lc (ZaE WE.nil (lc Zn))))) Zb) Zc)

mutual
def Zaj (s : (List Ze)) (t : Za) : Option (Za) :=
 if (t.fOp == 1) = true then
 ZbO s t.fName >>= fun ZDn =>
 if ZDn.2 = true then
 some ZDn.1
 else
 some t
 else
 if (t.fOp == 3) = true then
 (ixI t.fKids 1) >>= fun ZAe =>
 (ixI t.fKids 0) >>= fun ZAJ =>
 Zaj s ZAJ >>= fun ZCV =>
 Zaj s ZAe >>= fun ZCo =>
 Zeh ZCV ZCo >>= fun ZDP =>
 some ZDP
 else
 if (t.fOp == 4) = true then
 (ixI t.fKids 0) >>= fun ZdV =>
 Zbh ([] : List ByteArray) ([] : List ByteArray) ZdV >>= fun Zjr =>
 Zcn s Zjr ([]) ([]) 0 t ZdV Zjr
 else
 some t
 partial_fixpoint
def Zcn (s : (List Ze)) (Zjr : ((List ByteArray))) (Ze1 : (List Ze)) (Zdl : (List ByteArray)) (ZpQ : Nat) (t : Za) (ZdV : Za) (Zk4 : (List ByteArray)) : Option (Za) :=
 (match Zk4 with
 | ZqU :: Zum =>
 ZbO s ZqU >>= fun Zo2 =>
 if (Zo2.2 && (!(ZqU.toList == t.fName.toList))) = true then
 ZV ((Ze1.length + ([(Ze.mk ZqU Zo2.1)]).length) * 88 ≤ 140737488355328) >>= fun _ =>
 Zbh Zdl ([] : List ByteArray) Zo2.1 >>= fun ZDl =>
 Zcn s Zjr (Ze1 ++ ([(Ze.mk ZqU Zo2.1)])) ZDl (ZpQ + 1) t ZdV Zum
 else
 Zcn s Zjr Ze1 Zdl (ZpQ + 1) t ZdV Zum
 | [] =>
 Zch Zdl t.fName >>= fun ZDE =>
 if ZDE = true then
 ZV ((0 + Zjr.length) * 16 ≤ 140737488355328) >>= fun _ =>
 ZV ((Zjr.length + Zdl.length) * 16 ≤ 140737488355328) >>= fun _ =>
 Zdz t.fName (Zjr ++ Zdl) >>= fun Zyn =>
 ZeZ Zyn >>= fun ZzZ =>
 ZV ((Ze1.length + ([(Ze.mk t.fName ZzZ)]).length) * 88 ≤ 140737488355328) >>= fun _ =>
 ZcW (Ze1 ++ ([(Ze.mk t.fName ZzZ)])) Zyn t ZdV
 else
 ZcW Ze1 t.fName t ZdV)
 partial_fixpoint
def ZcW (Ze1 : (List Ze)) (ZkK : ByteArray) (t : Za) (ZdV : Za) : Option (Za) :=
 Zaj Ze1 ZdV >>= fun ZC4 =>
 some (Za.mk 4 ZkK t.fBound ([ZC4]))
 partial_fixpoint
end
def Zaj.M (s : (List Ze)) (t : Za) (r : Za) : Prop :=
 Zk Tryz.prog 39 [.c none (.sl (s.map Ze.cells)), .agg [.v (.int .i64 t.fOp), .v (.string t.fName), .sl (t.fBound.fArgs.map Zj.cells), .sl (t.fKids.map Za.cells)]] [] (fun d b => d = .agg [.v (.int .i64 r.fOp), .v (.string r.fName), .sl (r.fBound.fArgs.map Zj.cells), .sl (r.fKids.map Za.cells)] ∧ b = [])
def Zcn.M (s : (List Ze)) (Zjr : ((List ByteArray))) (Ze1 : (List Ze)) (Zdl : (List ByteArray)) (ZpQ : Nat) (t : Za) (ZdV : Za) (Zk4 : (List ByteArray)) (r : Za) : Prop :=
 ∀ Zl5 : List ByteArray, Zjr = Zl5 ++ Zk4 → ZpQ = Zl5.length → AWL Tryz.prog 122 (Code.sub (Zr Tryz.f39) [1, 0, 1, 0, 1, 1, 1, 1, 1, 0, 1, 1, 1, 1, 0, 1, 0, 0]) (Code.cont Tryz.prog 122 (Zr Tryz.f39) [1, 0, 1, 0, 1, 1, 1, 1, 1, 0, 1, 1, 1, 1, 0, 1, 0] (ZbV tab Tryz.f39.results (Zb0 (.agg [.v (.int .i64 r.fOp), .v (.string r.fName), .sl (r.fBound.fArgs.map Zj.cells), .sl (r.fKids.map Za.cells)]) []))) ⟨[(0, .c none (.sl (s.map Ze.cells))), (3, .ptr 3 0), (4, .ptr 4 0), (7, .ptr 7 0), (8, .c (some (8, 9)) (.sl (Zjr.map c_S))), (9, .c (some (9, 45)) (.sl (Ze1.map Ze.cells))), (10, .c (some (10, 9)) (.sl (Zdl.map c_S))), (11, .c none (.v (.int .i64 ((ZpQ : Nat) : Int))))], [(3, [(none, .v (.int .i64 t.fOp)), (none, .v (.string t.fName)), (none, .sl (t.fBound.fArgs.map Zj.cells)), (none, .sl (t.fKids.map Za.cells))]), (4, [(none, .v (.int .i64 0)), (none, .v (.string (ByteArray.mk #[]))), (none, .nils), (none, .nils)]), (7, [(none, .v (.int .i64 ZdV.fOp)), (none, .v (.string ZdV.fName)), (none, .sl (ZdV.fBound.fArgs.map Zj.cells)), (none, .sl (ZdV.fKids.map Za.cells))])]⟩
def ZcW.M (Ze1 : (List Ze)) (ZkK : ByteArray) (t : Za) (ZdV : Za) (r : Za) : Prop :=
 AWP Tryz.prog 122 (Code.sub (Zr Tryz.f39) [1, 0, 1, 0, 1, 1, 1, 1, 1, 0, 1, 1, 1, 1, 1, 1, 1]) (Code.cont Tryz.prog 122 (Zr Tryz.f39) [1, 0, 1, 0, 1, 1, 1, 1, 1, 0, 1, 1, 1, 1, 1, 1, 1] (ZbV tab Tryz.f39.results (Zb0 (.agg [.v (.int .i64 r.fOp), .v (.string r.fName), .sl (r.fBound.fArgs.map Zj.cells), .sl (r.fKids.map Za.cells)]) []))) ⟨[(3, .ptr 3 0), (4, .ptr 4 0), (7, .ptr 7 0), (9, .c (some (9, 45)) (.sl (Ze1.map Ze.cells))), (14, .c none (.v (.string ZkK)))], [(3, [(none, .v (.int .i64 t.fOp)), (none, .v (.string t.fName)), (none, .sl (t.fBound.fArgs.map Zj.cells)), (none, .sl (t.fKids.map Za.cells))]), (4, [(none, .v (.int .i64 0)), (none, .v (.string (ByteArray.mk #[]))), (none, .nils), (none, .nils)]), (7, [(none, .v (.int .i64 ZdV.fOp)), (none, .v (.string ZdV.fName)), (none, .sl (ZdV.fBound.fArgs.map Zj.cells)), (none, .sl (ZdV.fKids.map Za.cells))])]⟩
theorem ZlZ : (∀ (s : (List Ze)) (t : Za), ∀ r, Zaj s t = some r → Zaj.M s t r) ∧ (∀ (s : (List Ze)) (Zjr : ((List ByteArray))) (Ze1 : (List Ze)) (Zdl : (List ByteArray)) (ZpQ : Nat) (t : Za) (ZdV : Za) (Zk4 : (List ByteArray)), ∀ r, Zcn s Zjr Ze1 Zdl ZpQ t ZdV Zk4 = some r → Zcn.M s Zjr Ze1 Zdl ZpQ t ZdV Zk4 r) ∧ (∀ (Ze1 : (List Ze)) (ZkK : ByteArray) (t : Za) (ZdV : Za), ∀ r, ZcW Ze1 ZkK t ZdV = some r → ZcW.M Ze1 ZkK t ZdV r) := by
 refine Zaj.mutual_partial_correctness Zaj.M Zcn.M ZcW.M ?_ ?_ ?_
 ·intro lazycref04_subst' lazycref04_subst_l1' ZeN Zd0 s t r hF
  unfold Zaj.M
  refine en Tryz.func39 ?_
  refine AWP.seq ?_
  refine ns ?_
  refine AWP.seq ?_
  refine AWP.seq ?_
  refine ns ?_
  refine AWP.block ?_
  refine AWP.seq ?_
  refine ns ?_
  refine nw ?_
  refine Zi hF (fun ZEK hF => ?_) (fun ZEK hF => ?_)
  ·refine AWP.seq ?_
   obtain ⟨ZDn, ZDA, hF⟩ := bind_some hF
   refine ns ?_
   refine e3 ?_
   refine st ?_
   refine cm (Zk.weak (rn []) (ZgB s t.fName _ ZDA) rfl (WS.mk (tc (tc Zb)) Zc)) ?_
   refine st ?_
   refine AWP.seq ?_
   refine AWP.seq ?_
   refine ns ?_
   refine nw ?_
   refine Zi hF (fun ZsJ hF => ?_) (fun ZsJ hF => ?_)
   ·refine AWP.seq ?_
    refine ns ?_
    obtain rfl := Zh hF
    refine ns ?_
    refine Exists.intro [] ?_
    refine st ?_
    exact wx (WS.mk (Zd (Zp (lc (lc (lc (lc Zn))))) Zb) Zc)
   ·refine nw ?_
    refine AWP.seq ?_
    refine ns ?_
    obtain rfl := Zh hF
    refine ns ?_
    refine Exists.intro [] ?_
    refine st ?_
    exact wx (WS.mk (Zd (Zp (lc (lc (lc (lc Zn))))) Zb) Zc)
  ·refine AWP.seq ?_
   refine ns ?_
   refine nw ?_
   refine Zi hF (fun Zuk hF => ?_) (fun Zuk hF => ?_)
   ·refine AWP.seq ?_
    obtain ⟨ZAe, hx1450, ZEO, hF⟩ := Zd6 hF
    obtain ⟨ZAJ, hx1460, ZE2, hF⟩ := Zd6 hF
    obtain ⟨ZCV, ZDQ, hF⟩ := bind_some hF
    obtain ⟨ZCo, ZD2, hF⟩ := bind_some hF
    obtain ⟨ZDP, ZDI, hF⟩ := bind_some hF
    refine nn ?_
    refine Or.inl (Or.inr (Exists.intro [0, 6, 7, 8, 9, 10] (Exists.intro [[32, 38, 39, 40, 41, 42], [32, 38, 39, 40, 41, 42], [32, 38, 39, 40, 41, 42], [32, 38, 40, 41, 42], [32, 38, 41, 42], [32, 38, 42]] (Exists.intro [3] (Exists.intro [0, 3, 32, 38, 39, 40, 41, 42] (Exists.intro [32, 38, 39, 40, 41, 42] (Exists.intro [1, 2, 3, 4, 5, 11, 12, 13] (And.intro (by decide +kernel) ?_))))))))
    refine dp ?_
    refine dp ?_
    refine dp ?_
    refine dp ?_
    refine dr (Zdi (Za.cells_eq ZAe) ZEO) ?_
    refine dp ?_
    refine sr (Zdi (f := Za.cells) (Za.cells_eq ZAJ) ZE2) ?_
    refine st ?_
    refine e3 ?_
    refine st ?_
    refine cm (Zk.weak (rn []) (ZeN s ZAJ _ ZDQ) rfl (WS.mk (tc (Zd (Zp (lc (lc (lc (lc Zn))))) Zb)) Zc)) ?_
    refine st ?_
    refine e3 ?_
    refine st ?_
    refine cm (Zk.weak (rn []) (ZeN s ZAe _ ZD2) rfl (WS.mk (tc (Zd (Zp (lc (lc (lc (lc Zn))))) Zb)) Zc)) ?_
    refine st ?_
    refine e3 ?_
    refine st ?_
    refine cm (Zk.weak (rn []) (Zn5 ZCV ZCo _ ZDI) rfl (WS.mk (Zd (Zp (lc (lc (lc (lc Zn))))) (Zd (Zp (lc (lc (lc (lc Zn))))) Zb)) Zc)) ?_
    refine st ?_
    obtain rfl := Zh hF
    refine ns ?_
    refine Exists.intro [] ?_
    refine st ?_
    exact wx (WS.mk (Zd (Zp (lc (lc (lc (lc Zn))))) Zb) Zc)
   ·refine AWP.seq ?_
    refine ns ?_
    refine nw ?_
    refine Zi hF (fun ZDR hF => ?_) (fun ZDR hF => ?_)
    ·refine AWP.seq ?_
     obtain ⟨ZdV, ZCk, ZzT, hF⟩ := Zd6 hF
     refine nn ?_
     refine sr (Zdi (f := Za.cells) (Za.cells_eq ZdV) ZzT) ?_
     refine st ?_
     refine AWP.seq ?_
     obtain ⟨Zjr, ZDG, hF⟩ := bind_some hF
     refine ns ?_
     refine e3 ?_
     refine st ?_
     refine cm (Zk.weak (rn []) (ZhB ([] : List ByteArray) ([] : List ByteArray) ZdV _ ZDG) rfl (WS.mk (Zd ZjS (Zd (Zq WE.nil) (Zd (Zp (lc (lc (lc (lc Zn))))) Zb))) Zc)) ?_
     refine st ?_
     refine AWP.seq ?_
     refine ns ?_
     refine AWP.seq ?_
     refine ns ?_
     refine AWP.seq ?_
     refine AWP.seq ?_
     refine ns ?_
     refine AWP.block ?_
     refine AWP.loop ?_
     refine AWL.weak (rn [(52, 8)]) ?_ (Zd0 s Zjr ([]) ([]) 0 t ZdV Zjr _ hF ([]) rfl rfl)
     exact (WS.mk (tc (tp (tp (tp (Zd (ZaC rfl (WE.refl _)) (Zd ZjS (Zd ZjS (tc Zb)))))))) (Zf rfl (cc (cc (cc (cc Zg)))) (Zf rfl (cc (cc (cc (cc Zg)))) (Zf rfl (cc (cc (cc (cc Zg)))) Zc))))
    ·refine nw ?_
     refine AWP.seq ?_
     refine ns ?_
     obtain rfl := Zh hF
     refine ns ?_
     refine Exists.intro [] ?_
     refine st ?_
     exact wx (WS.mk (Zd (Zp (lc (lc (lc (lc Zn))))) Zb) Zc)
 ·intro lazycref04_subst_l1' lazycref04_subst_k2' Zd0 Zha s Zjr Ze1 Zdl ZpQ t ZdV Zk4 r hF
  unfold Zcn.M
  intro Zl5 Ztx Zs4
  refine AWL.step ?_
  refine AWP.seq ?_
  refine AWP.seq ?_
  refine ns ?_
  intro hlen235
  (try rw [List.length_map] at hlen235)
  (try rw [List.length_map])
  refine st ?_
  refine nw ?_
  refine ZF Ztx Zs4 (fun ZqU Zum Zzo Zyi ZBj => ?_) (fun Zzo => ?_)
  ·subst Zzo
   refine nw ?_
   refine AWP.seq ?_
   refine AWP.block ?_
   refine AWP.seq ?_
   obtain ⟨Zo2, ZD1, hF⟩ := bind_some hF
   refine nn ?_
   refine sr (ZX (f := c_S) rfl Zyi) ?_
   refine st ?_
   refine e3 ?_
   refine st ?_
   refine cm (Zk.weak (rn []) (ZgB s ZqU _ ZD1) rfl (WS.mk (tc (tc Zb)) Zc)) ?_
   refine st ?_
   refine AWP.seq ?_
   refine AWP.cutN (fun T => ∃ r, WS r T ⟨[(0, .c none (.sl (s.map Ze.cells))), (3, .ptr 3 0), (4, .ptr 4 0), (7, .ptr 7 0), (8, .c (some (8, 9)) (.sl (Zjr.map c_S))), (9, .c (some (9, 45)) (.sl (Ze1.map Ze.cells))), (10, .c (some (10, 9)) (.sl (Zdl.map c_S))), (11, .c none (.v (.int .i64 ((ZpQ : Nat) : Int)))), (12, .ptr 12 0), (77, .c none (.v (.bool (Zo2.2 && (!(ZqU.toList == t.fName.toList))))))], [(3, [(none, .v (.int .i64 t.fOp)), (none, .v (.string t.fName)), (none, .sl (t.fBound.fArgs.map Zj.cells)), (none, .sl (t.fKids.map Za.cells))]), (4, [(none, .v (.int .i64 0)), (none, .v (.string (ByteArray.mk #[]))), (none, .nils), (none, .nils)]), (7, [(none, .v (.int .i64 ZdV.fOp)), (none, .v (.string ZdV.fName)), (none, .sl (ZdV.fBound.fArgs.map Zj.cells)), (none, .sl (ZdV.fKids.map Za.cells))]), (12, [(none, .v (.int .i64 Zo2.1.fOp)), (none, .v (.string Zo2.1.fName)), (none, .sl (Zo2.1.fBound.fArgs.map Zj.cells)), (none, .sl (Zo2.1.fKids.map Za.cells))])]⟩) ?_ (fun T hw => ?_)
   ·refine nn ?_
    refine Or.inl (Or.inl (Exists.intro 8 (Exists.intro [[], [], [], [], [], [], [], []] (Exists.intro [([68, 69, 70, 71, 72, 73, 74, 75], [], []), ([69, 70, 71, 72, 73, 74, 75], [], []), ([70, 71, 72, 73, 74, 75], [], []), ([70, 71, 72, 73, 74, 75], [], []), ([72, 73, 74, 75], [], []), ([73, 74, 75], [], []), ([70, 71, 72, 73, 74, 75], [], []), ([70, 71, 72, 73, 75], [], [])] (Exists.intro [68, 69, 70, 71, 72, 73, 74, 75] (And.intro (by decide +kernel) ?_))))))
    refine dp ?_
    refine dp ?_
    refine st ?_
    refine Zl true (fun Zyp => ?_) (fun Zyp => ?_)
    ·(conv => whnf)
     refine dp ?_
     refine dp ?_
     refine dr (ZX rfl Zyi) ?_
     refine dp ?_
     refine dp ?_
     refine dp ?_
     refine st ?_
     exact Exists.intro (rn [(8, 8), (9, 9), (10, 10)]) (WS.mk (tc (tp (tp (tp (Zd (ZaC rfl (WE.refl _)) (Zd (ZaC rfl (WE.refl _)) (Zd (ZaC rfl (WE.refl _)) (tc (tp (Zd (Zq (web Zyp)) Zb)))))))))) (Zf rfl (cc (cc (cc (cc Zg)))) (Zf rfl (cc (cc (cc (cc Zg)))) (Zf rfl (cc (cc (cc (cc Zg)))) (Zf rfl (cc (cc (cc (cc Zg)))) Zc)))))
    ·(conv => whnf)
     refine st ?_
     exact Exists.intro (rn [(8, 8), (9, 9), (10, 10)]) (WS.mk (tc (tp (tp (tp (Zd (ZaC rfl (WE.refl _)) (Zd (ZaC rfl (WE.refl _)) (Zd (ZaC rfl (WE.refl _)) (tc (tp (Zd (Zq (web Zyp)) Zb)))))))))) (Zf rfl (cc (cc (cc (cc Zg)))) (Zf rfl (cc (cc (cc (cc Zg)))) (Zf rfl (cc (cc (cc (cc Zg)))) (Zf rfl (cc (cc (cc (cc Zg)))) Zc)))))
   obtain ⟨r0, hw⟩ := hw
   (conv => whnf)
   refine AWP.weak r0 hw ?_
   refine nw ?_
   refine Zi hF (fun ZEC hF => ?_) (fun ZEC hF => ?_)
   ·refine AWP.seq ?_
    obtain ⟨ZDL, hF⟩ := Zv hF
    refine nn ?_
    refine Or.inl (Or.inl (Exists.intro 8 (Exists.intro [[], [], [], [], [], [], [], []] (Exists.intro [([78, 79, 80, 81, 82, 83, 84, 85], [], []), ([78, 79, 80, 81, 82, 83, 84, 85], [], []), ([78, 79, 80, 81, 82, 83, 84, 85], [], []), ([78, 81, 82, 83, 84, 85], [], []), ([78, 82, 83, 84, 85], [], []), ([78, 79, 80, 81, 82, 83, 84, 85], [], []), ([78, 84, 85], [], []), ([78, 85], [], [])] (Exists.intro [78, 79, 80, 81, 82, 83, 84, 85] (And.intro (by decide +kernel) ?_))))))
    refine dp ?_
    refine dp ?_
    refine dp ?_
    refine dr (ZX rfl Zyi) ?_
    refine dp ?_
    refine dp ?_
    refine dp ?_
    refine de (Zcb (f := Ze.cells) (ZdW (Ze.cells_eq (Ze.mk ZqU Zo2.1)) (lc (lc (lc (lc (lc Zn)))))) (Zap (f := Ze.cells))) ?_
    refine sa (fun l => ZbH l (fun x => Ze.cells_len x)) ZDL ?_
    refine Exists.intro _ (And.intro (WE.refl _) ?_)
    rw [← List.map_append]
    refine st ?_
    obtain ⟨ZDl, ZDJ, hF⟩ := bind_some hF
    refine ns ?_
    refine e3 ?_
    refine st ?_
    refine cm (Zk.weak (rn [(10, 0)]) (ZhB Zdl ([] : List ByteArray) Zo2.1 _ ZDJ) rfl (WS.mk (Zd (ZaC rfl (WE.refl _)) (Zd (Zq WE.nil) (Zd (Zp (lc (lc (lc (lc Zn))))) Zb))) Zc)) ?_
    refine st ?_
    refine ns ?_
    refine AWL.weak (rn [(8, 8), (86, 9), (89, 10)]) ?_ (Zd0 s Zjr (Ze1 ++ ([(Ze.mk ZqU Zo2.1)])) ZDl (ZpQ + 1) t ZdV Zum _ hF (Zl5 ++ [ZqU]) (by rw [Ztx]; simp) (by rw [Zs4]; simp))
    exact (WS.mk (tc (tp (tp (tp (Zd (ZaC rfl (WE.refl _)) (Zd (ZaC rfl (WE.refl _)) (Zd (ZaC rfl (WE.refl _)) (Zd (Zq (Zc0 (ZP hlen235 ZBj))) Zb)))))))) (Zf rfl (cc (cc (cc (cc Zg)))) (Zf rfl (cc (cc (cc (cc Zg)))) (Zf rfl (cc (cc (cc (cc Zg)))) Zc))))
   ·refine nw ?_
    refine ns ?_
    refine AWL.weak (rn [(8, 8), (9, 9), (10, 10)]) ?_ (Zd0 s Zjr Ze1 Zdl (ZpQ + 1) t ZdV Zum _ hF (Zl5 ++ [ZqU]) (by rw [Ztx]; simp) (by rw [Zs4]; simp))
    exact (WS.mk (tc (tp (tp (tp (Zd (ZaC rfl (WE.refl _)) (Zd (ZaC rfl (WE.refl _)) (Zd (ZaC rfl (WE.refl _)) (Zd (Zq (Zc0 (ZP hlen235 ZBj))) Zb)))))))) (Zf rfl (cc (cc (cc (cc Zg)))) (Zf rfl (cc (cc (cc (cc Zg)))) (Zf rfl (cc (cc (cc (cc Zg)))) Zc))))
  ·subst Zzo
   refine nw ?_
   refine AWP.seq ?_
   refine ns ?_
   refine AWP.seq ?_
   refine AWP.seq ?_
   obtain ⟨ZDE, ZEv, hF⟩ := bind_some hF
   refine ns ?_
   refine Exists.intro [10] (Exists.intro [] (Exists.intro [] ?_))
   refine st ?_
   refine cm (Zk.weak (rn []) (Zew Zdl t.fName _ ZEv) rfl (WS.mk (tc (tc Zb)) Zc)) ?_
   refine st ?_
   refine nw ?_
   refine Zi hF (fun ZEz hF => ?_) (fun ZEz hF => ?_)
   ·refine AWP.seq ?_
    refine ns ?_
    refine AWP.seq ?_
    obtain ⟨ZDy, hF⟩ := Zv hF
    refine nn ?_
    refine sa (fun l => ZbH l (fun x => Zfv x)) ZDy ?_
    refine Exists.intro _ (And.intro (WE.refl _) ?_)
    (try rw [List.nil_append])
    refine st ?_
    refine AWP.seq ?_
    obtain ⟨ZFb, hF⟩ := Zv hF
    refine nn ?_
    refine sa (fun l => ZbH l (fun x => Zfv x)) ZFb ?_
    refine Exists.intro _ (And.intro (WE.refl _) ?_)
    rw [← List.map_append]
    refine st ?_
    refine AWP.seq ?_
    obtain ⟨Zyn, ZEf, hF⟩ := bind_some hF
    refine ns ?_
    refine Exists.intro [100] (Exists.intro [] (Exists.intro [] ?_))
    refine st ?_
    refine cm (Zk.weak (rn []) (ZlF t.fName (Zjr ++ Zdl) _ ZEf) rfl (WS.mk (tc (tc Zb)) Zc)) ?_
    refine st ?_
    obtain ⟨ZzZ, ZFl, hF⟩ := bind_some hF
    obtain ⟨ZEc, hF⟩ := Zv hF
    refine nn ?_
    refine Or.inl (Or.inl (Exists.intro 7 (Exists.intro [[], [], [], [], [], [], []] (Exists.intro [([105, 106, 107, 108, 109, 110, 111], [], []), ([105, 106, 107, 108, 109, 110, 111], [], []), ([105, 107, 108, 109, 110, 111], [], []), ([105, 106, 107, 108, 109, 110, 111], [], []), ([105, 106, 107, 109, 110, 111], [], []), ([105, 110, 111], [], []), ([105, 111], [], [])] (Exists.intro [105, 106, 107, 108, 109, 110, 111] (And.intro (by decide +kernel) ?_))))))
    refine dp ?_
    refine dp ?_
    refine dp ?_
    refine dp ?_
    (refine st ?_; apply Exists.intro; apply Exists.intro; apply And.intro; (focus ((conv => whnf); refine Exists.intro [] ?_; (conv => whnf); refine And.intro rfl ?_; (conv => whnf); refine Zk.mono (Zk.weak (rn []) (Zow Zyn _ ZFl) rfl (WS.mk (tc Zb) Zc)) ?_; rintro d b ⟨rfl, rfl⟩; exact And.intro rfl (And.intro rfl rfl))); apply And.intro; (focus exact rfl); (conv => whnf))
    refine dp ?_
    refine de (Zcb (f := Ze.cells) (ZdW (Ze.cells_eq (Ze.mk t.fName ZzZ)) (lc (lc (lc (lc (lc Zn)))))) (Zap (f := Ze.cells))) ?_
    refine sa (fun l => ZbH l (fun x => Ze.cells_len x)) ZEc ?_
    refine Exists.intro _ (And.intro (WE.refl _) ?_)
    rw [← List.map_append]
    refine st ?_
    refine AWP.weak (rn [(112, 9)]) ?_ (Zha (Ze1 ++ ([(Ze.mk t.fName ZzZ)])) Zyn t ZdV _ hF)
    exact (WS.mk (tp (tp (tp (Zd (ZaC rfl (WE.refl _)) (tc Zb))))) (Zf rfl (cc (cc (cc (cc Zg)))) (Zf rfl (cc (cc (cc (cc Zg)))) (Zf rfl (cc (cc (cc (cc Zg)))) Zc))))
   ·refine nw ?_
    refine AWP.weak (rn [(9, 9)]) ?_ (Zha Ze1 t.fName t ZdV _ hF)
    exact (WS.mk (tp (tp (tp (Zd (ZaC rfl (WE.refl _)) (tc Zb))))) (Zf rfl (cc (cc (cc (cc Zg)))) (Zf rfl (cc (cc (cc (cc Zg)))) (Zf rfl (cc (cc (cc (cc Zg)))) Zc))))
 ·intro lazycref04_subst' ZeN Ze1 ZkK t ZdV r hF
  unfold ZcW.M
  refine AWP.seq ?_
  obtain ⟨ZC4, ZEH, hF⟩ := bind_some hF
  refine nn ?_
  refine Or.inl (Or.inr (Exists.intro [0, 1, 2, 3] (Exists.intro [[113, 114, 115, 116], [113, 114, 115, 116], [113, 115, 116], [113, 114, 115, 116]] (Exists.intro [3] (Exists.intro [3, 9, 14, 113, 114, 115, 116] (Exists.intro [113, 114, 115, 116] (Exists.intro [4, 5, 6, 7, 8] (And.intro (by decide +kernel) ?_))))))))
  refine dp ?_
  refine dp ?_
  refine dp ?_
  refine dp ?_
  refine st ?_
  refine Exists.intro [9] (Exists.intro [] (Exists.intro [] ?_))
  refine st ?_
  refine cm (Zk.weak (rn []) (ZeN Ze1 ZdV _ ZEH) rfl (WS.mk (tc (Zd (Zp (lc (lc (lc (lc Zn))))) Zb)) Zc)) ?_
  refine st ?_
  refine Exists.intro _ (And.intro (Zcb (f := Za.cells) (ZdW (Za.cells_eq ZC4) (lc (lc (lc (lc Zn))))) (Zap (f := Za.cells))) ?_)
  refine st ?_
  obtain rfl := Zh hF
  refine ns ?_
  refine Exists.intro [] ?_
  refine st ?_
  exact wx (WS.mk (Zd (Zp (lc (lc (lc (lc Zn))))) Zb) Zc)
theorem ZmZ : ∀ (s : (List Ze)) (t : Za), ∀ r, Zaj s t = some r → Zaj.M s t r := ZlZ.1

def ZaZ (s : (List Ze)) (i_5 : Nat) (t : Za) (Zat : (List Ze)) : Option (Za) :=
 (match Zat with
 | x58 :: ZCy =>
 Zbk x58.fName >>= fun r61 =>
 (if (!r61) = true then some true else ZaG x58.fType >>= fun r62 =>
 some (r62 != 0)) >>= fun c63 =>
 if c63 = true then
 some (Za.mk 0 (ByteArray.mk #[]) (Zj.mk ([] : List Zj)) ([] : List Za))
 else
 ZaZ s (i_5 + 1) t ZCy
 | [] =>
 Zas s ([] : List ByteArray) t >>= fun r66 =>
 if ((decide (r66.1 > 20000)) || (decide (r66.2 > 100))) = true then
 some (Za.mk 0 (ByteArray.mk #[]) (Zj.mk ([] : List Zj)) ([] : List Za))
 else
 Zaj s t >>= fun r70 =>
 some r70)
 partial_fixpoint
def ZaZ.M (s : (List Ze)) (i_5 : Nat) (t : Za) (Zat : (List Ze)) (r : Za) : Prop :=
 ∀ Zda : List Ze, s = Zda ++ Zat → i_5 = Zda.length → AWL Tryz.prog 51 (Code.sub (Zr Tryz.f17) [1, 1, 0, 1, 0, 0]) (Code.cont Tryz.prog 51 (Zr Tryz.f17) [1, 1, 0, 1, 0] (ZbV tab Tryz.f17.results (Zb0 (.agg [.v (.int .i64 r.fOp), .v (.string r.fName), .sl (r.fBound.fArgs.map Zj.cells), .sl (r.fKids.map Za.cells)]) []))) ⟨[(0, .c none (.sl (s.map Ze.cells))), (3, .ptr 3 0), (4, .ptr 4 0), (5, .c none (.v (.int .i64 ((i_5 : Nat) : Int))))], [(3, [(none, .v (.int .i64 t.fOp)), (none, .v (.string t.fName)), (none, .sl (t.fBound.fArgs.map Zj.cells)), (none, .sl (t.fKids.map Za.cells))]), (4, [(none, .v (.int .i64 0)), (none, .v (.string (ByteArray.mk #[]))), (none, .nils), (none, .nils)])]⟩
theorem Zk8 (s : (List Ze)) (i_5 : Nat) (t : Za) (Zat : (List Ze)) : ∀ r, ZaZ s i_5 t Zat = some r → ZaZ.M s i_5 t Zat r := by
 refine ZaZ.partial_correctness s t (fun i_5 Zat r => ZaZ.M s i_5 t Zat r) ?_ i_5 Zat
 intro lazycref04_Subst_l1' ZgJ i_5 Zat r hF
 have Zk1 := fun (_s : (List Ze)) (i_5 : Nat) (_t : Za) (Zat : (List Ze)) => ZgJ i_5 Zat
 clear ZgJ
 unfold ZaZ.M
 intro Zda Zhc Zhn
 refine AWL.step ?_
 refine AWP.seq ?_
 refine AWP.seq ?_
 refine ns ?_
 intro hlen57
 (try rw [List.length_map] at hlen57)
 (try rw [List.length_map])
 refine st ?_
 refine nw ?_
 refine ZF Zhc Zhn (fun x58 ZCy ZDk ZD8 ZF0 => ?_) (fun ZDk => ?_)
 ·subst ZDk
  refine nw ?_
  refine AWP.seq ?_
  refine AWP.block ?_
  refine AWP.seq ?_
  obtain ⟨r61, ZzU, hF⟩ := bind_some hF
  obtain ⟨c63, Zp4, hF⟩ := bind_some hF
  refine AWP.cutN (fun T => ∃ r, WS r T ⟨[(0, .c none (.sl (s.map Ze.cells))), (3, .ptr 3 0), (4, .ptr 4 0), (5, .c none (.v (.int .i64 ((i_5 : Nat) : Int)))), (33, .c none (.v (.bool c63)))], [(3, [(none, .v (.int .i64 t.fOp)), (none, .v (.string t.fName)), (none, .sl (t.fBound.fArgs.map Zj.cells)), (none, .sl (t.fKids.map Za.cells))]), (4, [(none, .v (.int .i64 0)), (none, .v (.string (ByteArray.mk #[]))), (none, .nils), (none, .nils)])]⟩) ?_ (fun T hw => ?_)
  ·refine nn ?_
   refine sr (ZX (f := Ze.cells) (Ze.cells_eq x58) ZD8) ?_
   refine st ?_
   refine e3 ?_
   refine st ?_
   refine cm (Zk.weak (rn []) (Zfm x58.fName _ ZzU) rfl (WS.mk (tc Zb) Zc)) ?_
   refine st ?_
   refine Zl false (fun ZqS => ?_) (fun ZqS => ?_)
   ·have Zp4 := ift ZqS Zp4
    (conv => whnf)
    obtain rfl := Zh Zp4
    refine st ?_
    exact wx (WS.mk (tc (tp (tp (tc (Zd (Zq (web ZqS)) Zb))))) (Zf rfl (cc (cc (cc (cc Zg)))) (Zf rfl (cc (cc (cc (cc Zg)))) Zc)))
   ·have Zp4 := ife ZqS Zp4
    obtain ⟨r62, ZB5, Zp4⟩ := bind_some Zp4
    (conv => whnf)
    refine sr (ZX (f := Ze.cells) (Ze.cells_eq x58) ZD8) ?_
    refine st ?_
    refine e3 ?_
    refine st ?_
    refine cm (Zk.weak (rn []) (ZdT x58.fType _ ZB5) rfl (WS.mk (Zd (Zp (lc (lc (lc (lc Zn))))) Zb) Zc)) ?_
    refine st ?_
    obtain rfl := Zh Zp4
    refine st ?_
    exact wx (WS.mk (tc (tp (tp (tc (Zd (Zq (web ZqS)) Zb))))) (Zf rfl (cc (cc (cc (cc Zg)))) (Zf rfl (cc (cc (cc (cc Zg)))) Zc)))
  obtain ⟨r0, hw⟩ := hw
  (conv => whnf)
  refine AWP.weak r0 hw ?_
  refine nw ?_
  refine Zi hF (fun Zy4 hF => ?_) (fun Zy4 hF => ?_)
  ·refine AWP.seq ?_
   refine ns ?_
   obtain rfl := Zh hF
   refine ns ?_
   refine Exists.intro [] ?_
   refine st ?_
   exact wx (WS.mk (Zd (Zp (lc (lc (ZaE WE.nil (ZaE WE.nil Zn))))) Zb) Zc)
  ·refine nw ?_
   refine ns ?_
   refine AWL.weak (rn []) ?_ (Zk1 s (i_5 + 1) t ZCy _ hF (Zda ++ [x58]) (by rw [Zhc]; simp) (by rw [Zhn]; simp))
   exact (WS.mk (tc (tp (tp (Zd (Zq (Zc0 (ZP hlen57 ZF0))) Zb)))) (Zf rfl (cc (cc (cc (cc Zg)))) (Zf rfl (cc (cc (cc (cc Zg)))) Zc)))
 ·subst ZDk
  refine nw ?_
  refine AWP.seq ?_
  obtain ⟨r66, ZGL, hF⟩ := bind_some hF
  refine ns ?_
  refine e3 ?_
  refine st ?_
  refine cm (Zk.weak (rn []) (Zly s ([] : List ByteArray) t _ ZGL) rfl (WS.mk (tc (Zd (Zq WE.nil) (Zd (Zp (lc (lc (lc (lc Zn))))) Zb))) Zc)) ?_
  refine st ?_
  refine AWP.seq ?_
  refine AWP.seq ?_
  refine AWP.cutN (fun T => ∃ r, WS r T ⟨[(0, .c none (.sl (s.map Ze.cells))), (3, .ptr 3 0), (4, .ptr 4 0), (46, .c none (.v (.bool ((decide (r66.1 > 20000)) || (decide (r66.2 > 100))))))], [(3, [(none, .v (.int .i64 t.fOp)), (none, .v (.string t.fName)), (none, .sl (t.fBound.fArgs.map Zj.cells)), (none, .sl (t.fKids.map Za.cells))]), (4, [(none, .v (.int .i64 0)), (none, .v (.string (ByteArray.mk #[]))), (none, .nils), (none, .nils)])]⟩) ?_ (fun T hw => ?_)
  ·refine ns ?_
   refine Zl false (fun ZBZ => ?_) (fun ZBZ => ?_)
   ·(conv => whnf)
    refine st ?_
    exact wx (WS.mk (tc (tp (tp (Zd (Zq (web ZBZ)) Zb)))) (Zf rfl (cc (cc (cc (cc Zg)))) (Zf rfl (cc (cc (cc (cc Zg)))) Zc)))
   ·(conv => whnf)
    refine st ?_
    exact wx (WS.mk (tc (tp (tp (Zd (Zq (web ZBZ)) Zb)))) (Zf rfl (cc (cc (cc (cc Zg)))) (Zf rfl (cc (cc (cc (cc Zg)))) Zc)))
  obtain ⟨r0, hw⟩ := hw
  (conv => whnf)
  refine AWP.weak r0 hw ?_
  refine nw ?_
  refine Zi hF (fun ZB8 hF => ?_) (fun ZB8 hF => ?_)
  ·refine AWP.seq ?_
   refine ns ?_
   obtain rfl := Zh hF
   refine ns ?_
   refine Exists.intro [] ?_
   refine st ?_
   exact wx (WS.mk (Zd (Zp (lc (lc (ZaE WE.nil (ZaE WE.nil Zn))))) Zb) Zc)
  ·refine nw ?_
   refine AWP.seq ?_
   obtain ⟨r70, ZDp, hF⟩ := bind_some hF
   refine ns ?_
   refine e3 ?_
   refine st ?_
   refine cm (Zk.weak (rn []) (ZmZ s t _ ZDp) rfl (WS.mk (tc (Zd (Zp (lc (lc (lc (lc Zn))))) Zb)) Zc)) ?_
   refine st ?_
   obtain rfl := Zh hF
   refine ns ?_
   refine Exists.intro [] ?_
   refine st ?_
   exact wx (WS.mk (Zd (Zp (lc (lc (lc (lc Zn))))) Zb) Zc)

def ZcP (s : (List Ze)) (t : Za) : Option (Za) :=
 ZaG t >>= fun r3 =>
 if (r3 != 0) = true then
 some (Za.mk 0 (ByteArray.mk #[]) (Zj.mk ([] : List Zj)) ([] : List Za))
 else
 ZaZ s 0 t s
def ZcP.M (s : (List Ze)) (t : Za) (r : Za) : Prop :=
 Zk Tryz.prog 17 [.c none (.sl (s.map Ze.cells)), .agg [.v (.int .i64 t.fOp), .v (.string t.fName), .sl (t.fBound.fArgs.map Zj.cells), .sl (t.fKids.map Za.cells)]] [] (fun d b => d = .agg [.v (.int .i64 r.fOp), .v (.string r.fName), .sl (r.fBound.fArgs.map Zj.cells), .sl (r.fKids.map Za.cells)] ∧ b = [])
theorem Zm9 (s : (List Ze)) (t : Za) (r : Za) (hF : ZcP s t = some r) : ZcP.M s t r := by
 unfold ZcP at hF
 unfold ZcP.M
 refine en Tryz.func17 ?_
 refine AWP.seq ?_
 refine ns ?_
 refine AWP.seq ?_
 refine AWP.seq ?_
 obtain ⟨r3, hr3, hF⟩ := bind_some hF
 refine ns ?_
 refine e3 ?_
 refine st ?_
 refine cm (Zk.weak (rn []) (ZdT t _ hr3) rfl (WS.mk (Zd (Zp (lc (lc (lc (lc Zn))))) Zb) Zc)) ?_
 refine st ?_
 refine nw ?_
 refine Zi hF (fun hc4 hF => ?_) (fun hc4 hF => ?_)
 ·refine AWP.seq ?_
  refine ns ?_
  obtain rfl := Zh hF
  refine ns ?_
  refine Exists.intro [] ?_
  refine st ?_
  exact wx (WS.mk (Zd (Zp (lc (lc (ZaE WE.nil (ZaE WE.nil Zn))))) Zb) Zc)
 ·refine nw ?_
  refine AWP.seq ?_
  refine AWP.seq ?_
  refine ns ?_
  refine AWP.block ?_
  refine AWP.loop ?_
  refine AWL.weak (rn []) ?_ (Zk8 s 0 t s _ hF ([]) rfl rfl)
  exact (WS.mk (tc (tp (tp (tc Zb)))) (Zf rfl (cc (cc (cc (cc Zg)))) (Zf rfl (cc (cc (cc (cc Zg)))) Zc)))

def Z8 (v : ByteArray) (r6 : (Za)) (s : Zs) (ZkS : Nat) (ZA : (List Ze)) : Option (Int × Zs) :=
 if (decide (((ZkS : Nat) : Int) < ((s.flist.length : Nat) : Int))) = true then
 (ZA[ZkS]?) >>= fun x53 =>
 ZdZ ([(Ze.mk v r6)]) x53.fType >>= fun r54 =>
 if (r54.fOp == 0) = true then
 some (3, Zs.mk ZA s.fat)
 else
 (ZA[ZkS]?) >>= fun x58 =>
 Z8 v r6 s (ZkS + 1) (ZA.set ZkS (Ze.mk x58.fName r54))
 else
 ZV ((ZA.length + ([(Ze.mk v r6)]).length) * 88 ≤ 140737488355328) >>= fun _ =>
 some (0, Zs.mk (ZA ++ ([(Ze.mk v r6)])) (ZgY s.fat v ((ZA.length : Nat) : Int)))
 partial_fixpoint
def Z8.M (v : ByteArray) (r6 : (Za)) (s : Zs) (ZkS : Nat) (ZA : (List Ze)) (r : Int × Zs) : Prop :=
 s.flist.length ≤ maxLen → AWL Tryz.prog 77 (Code.sub (Zr Tryz.f53) [1, 1, 1, 1, 1, 0, 1, 0, 0]) (Code.cont Tryz.prog 77 (Zr Tryz.f53) [1, 1, 1, 1, 1, 0, 1, 0] (ZbV tab Tryz.f53.results (Zb0 (.c none (.v (.int .i64 r.1))) [(1000, [(none, .rs 7001 r.2.flist.length), (none, .rf 1002)]), (1002, [(none, .ob 109 (r.2.fat.map (Zdx c_S Zbn)))]), (7001, [(none, .ob 90 (r.2.flist.map Ze.cells))])]))) ⟨[(0, .ptr 1000 0), (1, .c none (.v (.string v))), (8, .c (some (8, 45)) (.sl (([(Ze.mk v r6)]).map Ze.cells))), (32, .c none (.rs 7001 ZA.length)), (33, .c none (.v (.int .i64 ((s.flist.length : Nat) : Int)))), (34, .c none (.v (.int .i64 ((ZkS : Nat) : Int))))], [(1000, [(none, .rs 7001 ZA.length), (none, .rf 1002)]), (1002, [(none, .ob 109 (s.fat.map (Zdx c_S Zbn)))]), (7001, [(none, .ob 90 (ZA.map Ze.cells))])]⟩
theorem Zki (v : ByteArray) (r6 : (Za)) (s : Zs) (ZkS : Nat) (ZA : (List Ze)) : ∀ r, Z8 v r6 s ZkS ZA = some r → Z8.M v r6 s ZkS ZA r := by
 refine Z8.partial_correctness v r6 s (fun ZkS ZA r => Z8.M v r6 s ZkS ZA r) ?_ ZkS ZA
 intro unify_solver_bind_l1' Zf9 ZkS ZA r hF
 have Zkn := fun (_v : ByteArray) (_r6 : (Za)) (_s : Zs) (ZkS : Nat) (ZA : (List Ze)) => Zf9 ZkS ZA
 clear Zf9
 unfold Z8.M
 intro hlen34
 refine AWL.step ?_
 refine AWP.seq ?_
 refine ns ?_
 refine AWP.seq ?_
 refine nw ?_
 refine Zi hF (fun ZD3 hF => ?_) (fun ZD3 hF => ?_)
 ·have ZFq := Zxn ZD3
  refine nw ?_
  refine AWP.seq ?_
  refine AWP.block ?_
  refine AWP.seq ?_
  obtain ⟨x53, ZEA, hF⟩ := bind_some hF
  refine ns ?_
  refine And.intro (ZqM ZEA) ?_
  refine st ?_
  refine sr (ZX (f := Ze.cells) (Ze.cells_eq x53) ZEA) ?_
  refine st ?_
  refine AWP.seq ?_
  obtain ⟨r54, ZGj, hF⟩ := bind_some hF
  refine ns ?_
  refine Exists.intro [8] (Exists.intro [] (Exists.intro [] ?_))
  refine st ?_
  refine cm (Zk.weak (rn []) (ZpJ ([(Ze.mk v r6)]) x53.fType _ ZGj) rfl (WS.mk (tc (Zd (Zp (lc (lc (lc (lc Zn))))) Zb)) Zc)) ?_
  refine st ?_
  refine AWP.seq ?_
  refine AWP.seq ?_
  refine ns ?_
  refine nw ?_
  refine Zi hF (fun ZiJ hF => ?_) (fun ZiJ hF => ?_)
  ·refine AWP.seq ?_
   refine ns ?_
   obtain rfl := Zh hF
   refine ns ?_
   refine Exists.intro [(1000, 1000), (7001, 7001), (1002, 1002)] ?_
   refine st ?_
   exact wx (WS.mk (tc Zb) (Zf rfl (Zet (Z2 (by first | exact rfl | simp only [List.length_set])) (cc Zg)) (Zf rfl (cc Zg) (Zf rfl (cc Zg) Zc))))
  ·refine nw ?_
   obtain ⟨x58, ZET, hF⟩ := bind_some hF
   refine nn ?_
   refine Or.inl (Or.inl (Exists.intro 6 (Exists.intro [[], [], [], [], [], []] (Exists.intro [([46, 47, 48, 49, 50, 51], [], []), ([47, 48, 49, 50, 51], [], []), ([48, 49, 50, 51], [], []), ([49, 50, 51], [], []), ([46, 47, 48, 49, 50, 51], [], []), ([46, 47, 48, 49, 50, 51], [], [])] (Exists.intro [46, 47, 48, 49, 50, 51] (And.intro (by decide +kernel) ?_))))))
   refine dp ?_
   refine dp ?_
   refine dp ?_
   refine dp ?_
   refine dp ?_
   refine dp ?_
   refine st ?_
   refine And.intro (ZqM ZET) ?_
   refine st ?_
   refine sr (ZX (f := Ze.cells) (Ze.cells_eq x58) ZET) ?_
   refine Exists.intro ((ZA.set ZkS (Ze.mk x58.fName r54)).map Ze.cells) (And.intro (ZB4 (ZdW (Ze.cells_eq (Ze.mk x58.fName r54)) (lc (lc (lc (lc (lc Zn))))))) ?_)
   refine st ?_
   refine ns ?_
   refine AWL.weak (rn [(8, 8)]) ?_ (Zkn v r6 s (ZkS + 1) (ZA.set ZkS (Ze.mk x58.fName r54)) _ hF hlen34)
   exact (WS.mk (tp (tc (Zd (ZaC rfl (WE.refl _)) (Zd (Zq (Z2 (by first | exact rfl | simp only [List.length_set]))) (tc (Zd (Zq (Zc0 (ZP hlen34 ZFq))) Zb)))))) (Zf rfl (Zet (Z2 (by first | exact rfl | simp only [List.length_set])) (cc Zg)) (Zf rfl (cc Zg) (Zf rfl (cc Zg) Zc))))
 ·refine nw ?_
  refine AWP.seq ?_
  refine nn ?_
  refine Or.inl (Or.inl (Exists.intro 10 (Exists.intro [[], [], [], [], [], [], [], [], [], []] (Exists.intro [([55, 56, 57, 58, 59, 60, 61, 62, 63, 64], [], []), ([56, 57, 58, 59, 60, 61, 62, 63, 64], [], []), ([57, 58, 59, 60, 61, 62, 63, 64], [], []), ([58, 59, 60, 61, 62, 63, 64], [], []), ([55, 56, 57, 58, 59, 60, 61, 62, 63, 64], [], []), ([55, 56, 57, 58, 59, 60, 61, 62, 63, 64], [], []), ([55, 56, 57, 58, 59, 61, 62, 63, 64], [], []), ([55, 56, 57, 58, 59, 62, 63, 64], [], []), ([55, 56, 57, 58, 59, 63, 64], [], []), ([55, 56, 57, 58, 59, 64], [], [])] (Exists.intro [55, 56, 57, 58, 59, 60, 61, 62, 63, 64] (And.intro (by decide +kernel) ?_))))))
  refine dp ?_
  refine dp ?_
  refine dp ?_
  refine dp ?_
  refine dp ?_
  refine dp ?_
  refine dp ?_
  refine dp ?_
  refine dp ?_
  refine dl ?_
  refine st ?_
  refine ZmJ (m := s.fat) (k := v) (v := ((ZA.length : Nat) : Int)) ZfO (ev := Zbn) (lc Zn) ?_
  refine st ?_
  refine AWP.seq ?_
  obtain ⟨ZBK, hF⟩ := Zv hF
  refine nn ?_
  refine Or.inl (Or.inr (Exists.intro [0, 5, 6, 7, 8] (Exists.intro [[65, 70, 71, 72, 73], [65, 70, 71, 72, 73], [65, 71, 72, 73], [65, 72, 73], [65, 73]] (Exists.intro [] (Exists.intro [0, 8, 65, 70, 71, 72, 73] (Exists.intro [65, 70, 71, 72, 73] (Exists.intro [1, 2, 3, 4, 9, 10, 11, 12] (And.intro (by decide +kernel) ?_))))))))
  refine dp ?_
  refine dp ?_
  refine dp ?_
  refine dp ?_
  refine de (Zcb (f := Ze.cells) (ZdW (Ze.cells_eq (Ze.mk v r6)) (lc (lc (lc (lc (lc Zn)))))) (Zap (f := Ze.cells))) ?_
  refine sa (fun l => ZbH l (fun x => Ze.cells_len x)) ZBK ?_
  refine Exists.intro (([(Ze.mk v r6)]).map Ze.cells) (Exists.intro ((ZA ++ ([(Ze.mk v r6)])).map Ze.cells) (Exists.intro (ZA ++ ([(Ze.mk v r6)])).length (And.intro (WE.refl _) (And.intro (ZrJ (by first | exact rfl | simp only [List.length_set])) (And.intro (ZqA (by first | exact rfl | simp only [List.length_set]) (by first | exact List.length_map _ | exact rfl)) ?_)))))
  refine st ?_
  refine AWP.seq ?_
  refine ns ?_
  obtain rfl := Zh hF
  refine ns ?_
  refine Exists.intro [(1000, 1000), (7001, 7001), (1002, 1002)] ?_
  refine st ?_
  exact wx (WS.mk (tc Zb) (Zf rfl (Zet (Z2 (by first | exact rfl | simp only [List.length_set])) (cc Zg)) (Zf rfl (cc Zg) (Zf rfl (cc Zg) Zc))))

def Zbg (s : Zs) (v : ByteArray) (t : Za) : Option (Int × Zs) :=
 Zcp s v t >>= fun r3 =>
 if r3 = true then
 some (23, s)
 else
 ZeD s.flist t >>= fun r6 =>
 if (r6.fOp == 0) = true then
 some (3, s)
 else
 Z8 v r6 s 0 s.flist
def Zbg.M (s : Zs) (v : ByteArray) (t : Za) (r : Int × Zs) : Prop :=
 Zk Tryz.prog 53 [.ptr 1000 0, .c none (.v (.string v)), .agg [.v (.int .i64 t.fOp), .v (.string t.fName), .sl (t.fBound.fArgs.map Zj.cells), .sl (t.fKids.map Za.cells)]] [(1000, [(none, .rs 7001 s.flist.length), (none, .rf 1002)]), (1002, [(none, .ob 109 (s.fat.map (Zdx c_S Zbn)))]), (7001, [(none, .ob 90 (s.flist.map Ze.cells))])] (fun d b => d = .c none (.v (.int .i64 r.1)) ∧ b = [(1000, [(none, .rs 7001 r.2.flist.length), (none, .rf 1002)]), (1002, [(none, .ob 109 (r.2.fat.map (Zdx c_S Zbn)))]), (7001, [(none, .ob 90 (r.2.flist.map Ze.cells))])])
theorem Zic (s : Zs) (v : ByteArray) (t : Za) (r : Int × Zs) (hF : Zbg s v t = some r) : Zbg.M s v t r := by
 unfold Zbg at hF
 unfold Zbg.M
 refine en Tryz.func53 ?_
 refine AWP.seq ?_
 refine ns ?_
 refine AWP.seq ?_
 refine AWP.seq ?_
 obtain ⟨r3, hr3, hF⟩ := bind_some hF
 refine ns ?_
 refine Exists.intro [] (Exists.intro [(1000, 1000), (7001, 1001), (1002, 1002)] (Exists.intro [] ?_))
 refine st ?_
 refine cm (Zk.weak (rn []) (ZkT s v t _ hr3) rfl (WS.mk (tp (tc (Zd (Zp (lc (lc (lc (lc Zn))))) Zb))) (Zf rfl (Zet (Z2 (by first | exact rfl | simp only [List.length_set])) (cc Zg)) (Zf rfl (cc Zg) (Zf rfl (cc Zg) Zc))))) ?_
 refine st ?_
 refine nw ?_
 refine Zi hF (fun hc4 hF => ?_) (fun hc4 hF => ?_)
 ·refine AWP.seq ?_
  refine ns ?_
  obtain rfl := Zh hF
  refine ns ?_
  refine Exists.intro [(1000, 1000), (7001, 7001), (1002, 1002)] ?_
  refine st ?_
  exact wx (WS.mk (tc Zb) (Zf rfl (Zet (Z2 (by first | exact rfl | simp only [List.length_set])) (cc Zg)) (Zf rfl (cc Zg) (Zf rfl (cc Zg) Zc))))
 ·refine nw ?_
  refine AWP.seq ?_
  obtain ⟨r6, hr6, hF⟩ := bind_some hF
  refine nn ?_
  refine Or.inl (Or.inl (Exists.intro 7 (Exists.intro [[], [], [], [], [], [7001], [7]] (Exists.intro [([16, 17, 18, 19, 20, 21, 7], [7], []), ([17, 18, 19, 20, 21, 7], [7], []), ([18, 19, 20, 21, 7], [7], []), ([19, 20, 21, 7], [7], []), ([16, 17, 18, 19, 20, 21, 7], [7], []), ([21, 7], [7], [7001]), ([16, 17, 18, 19, 20, 21, 7], [7001], [7])] (Exists.intro [16, 17, 18, 19, 20, 21, 7] (And.intro (by decide +kernel) ?_))))))
  refine dp ?_
  refine dp ?_
  refine dp ?_
  refine dp ?_
  refine dp ?_
  (refine st ?_; apply Exists.intro; apply Exists.intro; apply And.intro; (focus ((conv => whnf); refine Exists.intro [(7001, 1000)] ?_; (conv => whnf); refine And.intro rfl ?_; (conv => whnf); refine Zk.mono (Zk.weak (rn []) (ZrQ s.flist t _ hr6) rfl (WS.mk (Zd (Zq (Z2 (by first | exact rfl | simp only [List.length_set]))) (Zd (Zp (lc (lc (lc (lc Zn))))) Zb)) (Zf rfl (cc Zg) Zc))) ?_; rintro d b ⟨rfl, rfl⟩; exact And.intro rfl (And.intro rfl rfl))); apply And.intro; (focus exact rfl); (conv => whnf))
  refine dp ?_
  refine st ?_
  refine AWP.seq ?_
  refine AWP.seq ?_
  refine ns ?_
  refine nw ?_
  refine Zi hF (fun hc8 hF => ?_) (fun hc8 hF => ?_)
  ·refine AWP.seq ?_
   refine ns ?_
   obtain rfl := Zh hF
   refine ns ?_
   refine Exists.intro [(1000, 1000), (7001, 7001), (1002, 1002)] ?_
   refine st ?_
   exact wx (WS.mk (tc Zb) (Zf rfl (Zet (Z2 (by first | exact rfl | simp only [List.length_set])) (cc Zg)) (Zf rfl (cc Zg) (Zf rfl (cc Zg) Zc))))
  ·refine nw ?_
   refine AWP.seq ?_
   refine ns ?_
   refine Exists.intro _ (And.intro (Zcb (f := Ze.cells) (ZdW (Ze.cells_eq (Ze.mk v r6)) (lc (lc (lc (lc (lc Zn)))))) (Zap (f := Ze.cells))) ?_)
   refine st ?_
   refine AWP.seq ?_
   refine AWP.seq ?_
   refine ns ?_
   intro hlen34
   (try rw [List.length_map] at hlen34)
   (try rw [List.length_map])
   refine st ?_
   refine AWP.block ?_
   refine AWP.loop ?_
   refine AWL.weak (rn [(28, 8)]) ?_ (Zki v r6 s 0 s.flist _ hF hlen34)
   exact (WS.mk (tp (tc (Zd (ZaC rfl (WE.refl _)) (Zd (Zq (Z2 (by first | exact rfl | simp only [List.length_set]))) (tc (tc Zb)))))) (Zf rfl (Zet (Z2 (by first | exact rfl | simp only [List.length_set])) (cc Zg)) (Zf rfl (cc Zg) (Zf rfl (cc Zg) Zc))))

mutual
def ZN (Zaz : (List (ByteArray × Int))) (ZA : (List Ze)) (Zbs : (List Zo)) : Option (Int × Zs × (List Zo)) :=
 if (decide (((Zbs.length : Nat) : Int) > 0)) = true then
 (ixI Zbs (IntKind.i64.wrap (((Zbs.length : Nat) : Int) - 1))) >>= fun ZAt =>
 ZaD (Zs.mk ZA Zaz) ZAt.e0 >>= fun ZgV =>
 (ixI Zbs (IntKind.i64.wrap (((Zbs.length : Nat) : Int) - 1))) >>= fun ZAm =>
 ZaD (Zs.mk ZA Zaz) ZAm.e1 >>= fun Zg1 =>
 (slL Zbs ((0 : Nat) : Int) (IntKind.i64.wrap (((Zbs.length : Nat) : Int) - 1))) >>= fun ZiI =>
 if (((ZgV.fOp == 1) && (Zg1.fOp == 1)) && (ZgV.fName.toList == Zg1.fName.toList)) = true then
 Zw 0 Zaz ZA ZiI
 else
 if (ZgV.fOp == 1) = true then
 Zbg (Zs.mk ZA Zaz) ZgV.fName Zg1 >>= fun Zv4 =>
 Zw Zv4.1 Zv4.2.fat Zv4.2.flist ZiI
 else
 if (Zg1.fOp == 1) = true then
 Zbg (Zs.mk ZA Zaz) Zg1.fName ZgV >>= fun ZvA =>
 Zw ZvA.1 ZvA.2.fat ZvA.2.flist ZiI
 else
 if (((ZgV.fOp == 2) && (Zg1.fOp == 2)) && (ZgV.fName.toList == Zg1.fName.toList)) = true then
 Zw 0 Zaz ZA ZiI
 else
 if ((ZgV.fOp == 3) && (Zg1.fOp == 3)) = true then
 (ixI ZgV.fKids 1) >>= fun ZtD =>
 (ixI Zg1.fKids 1) >>= fun ZtJ =>
 (ixI ZgV.fKids 0) >>= fun Zto =>
 (ixI Zg1.fKids 0) >>= fun ZdV =>
 ZV ((ZiI.length + ([(Zo.mk ZtD ZtJ), (Zo.mk Zto ZdV)]).length) * 144 ≤ 140737488355328) >>= fun _ =>
 Zw 0 Zaz ZA (ZiI ++ ([(Zo.mk ZtD ZtJ), (Zo.mk Zto ZdV)]))
 else
 Zw 22 Zaz ZA ZiI
 else
 some (0, Zs.mk ZA Zaz, Zbs)
 partial_fixpoint
def Zw (e_7 : Int) (Zaz : (List (ByteArray × Int))) (ZA : (List Ze)) (Zbs : (List Zo)) : Option (Int × Zs × (List Zo)) :=
 if (e_7 != 0) = true then
 some (e_7, Zs.mk ([] : List Ze) ([] : List (ByteArray × Int)), Zbs)
 else
 ZN Zaz ZA Zbs
 partial_fixpoint
end
def ZN.M (Zaz : (List (ByteArray × Int))) (ZA : (List Ze)) (Zbs : (List Zo)) (r : Int × Zs × (List Zo)) : Prop :=
 AWL Tryz.prog 124 (Code.sub (Zr Tryz.f32) [1, 0, 0, 0]) (Code.cont Tryz.prog 124 (Zr Tryz.f32) [1, 0, 0] (ZbV tab Tryz.f32.results (Zb0 (.c none (.v (.int .i64 r.1))) [(1000, [(none, .rs 7001 r.2.1.flist.length), (none, .rf 1002)]), (1002, [(none, .ob 109 (r.2.1.fat.map (Zdx c_S Zbn)))]), (7001, [(none, .ob 90 (r.2.1.flist.map Ze.cells))]), (7003, [(none, .ob 76 (r.2.2.map Zo.cells))])]))) ⟨[(0, .ptr 1000 0), (1, .c none (.rs 7003 Zbs.length))], [(1000, [(none, .rs 7001 ZA.length), (none, .rf 1002)]), (1002, [(none, .ob 109 (Zaz.map (Zdx c_S Zbn)))]), (7001, [(none, .ob 90 (ZA.map Ze.cells))]), (7003, [(none, .ob 76 (Zbs.map Zo.cells))])]⟩
def Zw.M (e_7 : Int) (Zaz : (List (ByteArray × Int))) (ZA : (List Ze)) (Zbs : (List Zo)) (r : Int × Zs × (List Zo)) : Prop :=
 AWP Tryz.prog 124 (Code.sub (Zr Tryz.f32) [1, 0, 0, 0, 1, 0, 1, 1, 1, 1]) (Code.cont Tryz.prog 124 (Zr Tryz.f32) [1, 0, 0, 0, 1, 0, 1, 1, 1, 1] (ZbV tab Tryz.f32.results (Zb0 (.c none (.v (.int .i64 r.1))) [(1000, [(none, .rs 7001 r.2.1.flist.length), (none, .rf 1002)]), (1002, [(none, .ob 109 (r.2.1.fat.map (Zdx c_S Zbn)))]), (7001, [(none, .ob 90 (r.2.1.flist.map Ze.cells))]), (7003, [(none, .ob 76 (r.2.2.map Zo.cells))])]))) ⟨[(0, .ptr 1000 0), (1, .c none (.rs 7003 Zbs.length)), (7, .c none (.v (.int .i64 e_7)))], [(1000, [(none, .rs 7001 ZA.length), (none, .rf 1002)]), (1002, [(none, .ob 109 (Zaz.map (Zdx c_S Zbn)))]), (7001, [(none, .ob 90 (ZA.map Ze.cells))]), (7003, [(none, .ob 76 (Zbs.map Zo.cells))])]⟩
theorem Zjs : (∀ (Zaz : (List (ByteArray × Int))) (ZA : (List Ze)) (Zbs : (List Zo)), ∀ r, ZN Zaz ZA Zbs = some r → ZN.M Zaz ZA Zbs r) ∧ (∀ (e_7 : Int) (Zaz : (List (ByteArray × Int))) (ZA : (List Ze)) (Zbs : (List Zo)), ∀ r, Zw e_7 Zaz ZA Zbs = some r → Zw.M e_7 Zaz ZA Zbs r) := by
 refine ZN.mutual_partial_correctness ZN.M Zw.M ?_ ?_
 ·intro unify_solver_solve_k2' Zck Zaz ZA Zbs r hF
  unfold ZN.M
  refine AWL.step ?_
  refine AWP.seq ?_
  refine AWP.seq ?_
  refine ns ?_
  intro hlen101
  (try rw [List.length_map] at hlen101)
  (try rw [List.length_map])
  refine st ?_
  refine nw ?_
  refine Zi hF (fun ZDY hF => ?_) (fun ZDY hF => ?_)
  ·refine nw ?_
   refine AWP.block ?_
   refine AWP.seq ?_
   obtain ⟨ZAt, ZDw, ZA4, hF⟩ := Zd6 hF
   obtain ⟨ZgV, ZDB, hF⟩ := bind_some hF
   obtain ⟨ZAm, ZCb, ZBd, hF⟩ := Zd6 hF
   obtain ⟨Zg1, ZFo, hF⟩ := bind_some hF
   refine nn ?_
   refine Or.inl (Or.inl (Exists.intro 20 (Exists.intro [[], [], [], [], [], [], [], [], [1000, 7001, 1002], [], [], [], [], [], [], [], [], [1000, 7001, 1002], [5], [6]] (Exists.intro [([11, 12, 13, 14, 15, 16, 17, 18, 19, 20, 21, 22, 23, 24, 25, 26, 27, 28, 5, 6], [5, 6], []), ([11, 12, 13, 14, 15, 16, 17, 18, 19, 20, 21, 22, 23, 24, 25, 26, 27, 28, 5, 6], [5, 6], []), ([11, 12, 13, 14, 15, 16, 17, 18, 19, 20, 21, 22, 23, 24, 25, 26, 27, 28, 5, 6], [5, 6], []), ([11, 12, 14, 15, 16, 17, 18, 19, 20, 21, 22, 23, 24, 25, 26, 27, 28, 5, 6], [5, 6], []), ([11, 12, 15, 16, 17, 18, 19, 20, 21, 22, 23, 24, 25, 26, 27, 28, 5, 6], [5, 6], []), ([11, 16, 17, 18, 19, 20, 21, 22, 23, 24, 25, 26, 27, 28, 5, 6], [5, 6], []), ([11, 17, 18, 19, 20, 21, 22, 23, 24, 25, 26, 27, 28, 5, 6], [5, 6], []), ([11, 18, 19, 20, 21, 22, 23, 24, 25, 26, 27, 28, 5, 6], [5, 6], []), ([19, 20, 21, 22, 23, 24, 25, 26, 27, 28, 5, 6], [5, 6], [1000, 7001, 1002]), ([11, 12, 13, 14, 15, 16, 17, 18, 19, 20, 21, 22, 23, 24, 25, 26, 27, 28, 5, 6], [1000, 7001, 1002, 5, 6], []), ([11, 12, 13, 14, 15, 16, 17, 18, 19, 20, 21, 22, 23, 24, 25, 26, 27, 28, 5, 6], [1000, 7001, 1002, 5, 6], []), ([11, 12, 13, 14, 15, 16, 17, 18, 19, 20, 21, 22, 23, 24, 25, 26, 27, 28, 5, 6], [1000, 7001, 1002, 5, 6], []), ([11, 12, 13, 14, 15, 16, 17, 18, 19, 20, 21, 23, 24, 25, 26, 27, 28, 5, 6], [1000, 7001, 1002, 5, 6], []), ([11, 12, 13, 14, 15, 16, 17, 18, 19, 20, 21, 24, 25, 26, 27, 28, 5, 6], [1000, 7001, 1002, 5, 6], []), ([11, 12, 13, 14, 15, 16, 17, 18, 19, 20, 25, 26, 27, 28, 5, 6], [1000, 7001, 1002, 5, 6], []), ([11, 12, 13, 14, 15, 16, 17, 18, 19, 20, 26, 27, 28, 5, 6], [1000, 7001, 1002, 5, 6], []), ([11, 12, 13, 14, 15, 16, 17, 18, 19, 20, 27, 28, 5, 6], [1000, 7001, 1002, 5, 6], []), ([28, 5, 6], [5, 6], [1000, 7001, 1002]), ([11, 12, 13, 14, 15, 16, 17, 18, 19, 20, 21, 22, 23, 24, 25, 26, 27, 28, 5, 6], [1000, 7001, 1002, 1000, 7001, 1002, 6], [5]), ([11, 12, 13, 14, 15, 16, 17, 18, 19, 20, 21, 22, 23, 24, 25, 26, 27, 28, 5, 6], [1000, 7001, 1002, 1000, 7001, 1002, 5], [6])] (Exists.intro [11, 12, 13, 14, 15, 16, 17, 18, 19, 20, 21, 22, 23, 24, 25, 26, 27, 28, 5, 6] (And.intro (by decide +kernel) ?_))))))
   refine dp ?_
   refine dp ?_
   refine dp ?_
   refine dl ?_
   refine dp ?_
   refine da (ZrR ZDw ZA4) ?_
   refine dp ?_
   refine dr (Zdi (Zo.cells_eq ZAt) ZA4) ?_
   (refine st ?_; apply Exists.intro; apply Exists.intro; apply And.intro; (focus ((conv => whnf); refine Exists.intro [(1000, 1000), (7001, 1001), (1002, 1002)] ?_; (conv => whnf); refine And.intro rfl ?_; (conv => whnf); refine Zk.mono (Zk.weak (rn []) (Zgb (Zs.mk ZA Zaz) ZAt.e0 _ ZDB) rfl (WS.mk (tp (Zd (Zp (lc (lc (lc (lc Zn))))) Zb)) (Zf rfl (Zet (Z2 (by first | exact rfl | simp only [List.length_set])) (cc Zg)) (Zf rfl (cc Zg) (Zf rfl (cc Zg) Zc))))) ?_; rintro d b ⟨rfl, rfl⟩; exact And.intro rfl (And.intro rfl rfl))); apply And.intro; (focus exact rfl); (conv => whnf))
   refine dp ?_
   refine dp ?_
   refine dp ?_
   refine dl ?_
   refine dp ?_
   refine da (ZrR ZCb ZBd) ?_
   refine dp ?_
   refine dr (Zdi (Zo.cells_eq ZAm) ZBd) ?_
   (refine st ?_; apply Exists.intro; apply Exists.intro; apply And.intro; (focus ((conv => whnf); refine Exists.intro [(1000, 1000), (7001, 1001), (1002, 1002)] ?_; (conv => whnf); refine And.intro rfl ?_; (conv => whnf); refine Zk.mono (Zk.weak (rn []) (Zgb (Zs.mk ZA Zaz) ZAm.e1 _ ZFo) rfl (WS.mk (tp (Zd (Zp (lc (lc (lc (lc Zn))))) Zb)) (Zf rfl (Zet (Z2 (by first | exact rfl | simp only [List.length_set])) (cc Zg)) (Zf rfl (cc Zg) (Zf rfl (cc Zg) Zc))))) ?_; rintro d b ⟨rfl, rfl⟩; exact And.intro rfl (And.intro rfl rfl))); apply And.intro; (focus exact rfl); (conv => whnf))
   refine dp ?_
   refine dp ?_
   refine st ?_
   refine AWP.seq ?_
   obtain ⟨ZiI, ZBx, ZC2, ZzL, ZA7, hF⟩ := Zx6 hF
   refine ns ?_
   intro hlen111
   (try rw [List.length_map] at hlen111)
   (try rw [List.length_map])
   refine s3 ZBx ZC2 ZzL ?_
   refine Exists.intro (ZiI.map Zo.cells) (Exists.intro ZiI.length (And.intro (ZD4 ZA7) (And.intro (ZBm ZzL ZA7) ?_)))
   refine st ?_
   refine AWP.seq ?_
   refine ns ?_
   refine AWP.seq ?_
   refine AWP.block ?_
   refine AWP.seq ?_
   refine AWP.cutN (fun T => ∃ r, WS r T ⟨[(0, .ptr 1000 0), (1, .c none (.rs 7003 ZiI.length)), (5, .ptr 5 0), (6, .ptr 6 0), (7, .c none (.v (.int .i64 0))), (34, .c none (.v (.bool (((ZgV.fOp == 1) && (Zg1.fOp == 1)) && (ZgV.fName.toList == Zg1.fName.toList)))))], [(5, [(none, .v (.int .i64 ZgV.fOp)), (none, .v (.string ZgV.fName)), (none, .sl (ZgV.fBound.fArgs.map Zj.cells)), (none, .sl (ZgV.fKids.map Za.cells))]), (6, [(none, .v (.int .i64 Zg1.fOp)), (none, .v (.string Zg1.fName)), (none, .sl (Zg1.fBound.fArgs.map Zj.cells)), (none, .sl (Zg1.fKids.map Za.cells))]), (1000, [(none, .rs 7001 ZA.length), (none, .rf 1002)]), (1002, [(none, .ob 109 (Zaz.map (Zdx c_S Zbn)))]), (7001, [(none, .ob 90 (ZA.map Ze.cells))]), (7003, [(none, .ob 76 (ZiI.map Zo.cells))])]⟩) ?_ (fun T hw => ?_)
   ·refine ns ?_
    refine Zl true (fun Zwk => ?_) (fun Zwk => ?_)
    ·(conv => whnf)
     refine st ?_
     refine Zl true (fun Zyx => ?_) (fun Zyx => ?_)
     ·(conv => whnf)
      refine st ?_
      exact wx (WS.mk (tp (Zd (Zq (Z2 (by first | exact rfl | simp only [List.length_set]))) (tp (tp (tc (Zd (Zq (web (And.intro Zwk Zyx))) Zb)))))) (Zf rfl (cc (cc (cc (cc Zg)))) (Zf rfl (cc (cc (cc (cc Zg)))) (Zf rfl (Zet (Z2 (by first | exact rfl | simp only [List.length_set])) (cc Zg)) (Zf rfl (cc Zg) (Zf rfl (cc Zg) (Zf rfl (cc Zg) Zc)))))))
     ·(conv => whnf)
      refine st ?_
      exact wx (WS.mk (tp (Zd (Zq (Z2 (by first | exact rfl | simp only [List.length_set]))) (tp (tp (tc (Zd (Zq (web (And.intro Zwk Zyx))) Zb)))))) (Zf rfl (cc (cc (cc (cc Zg)))) (Zf rfl (cc (cc (cc (cc Zg)))) (Zf rfl (Zet (Z2 (by first | exact rfl | simp only [List.length_set])) (cc Zg)) (Zf rfl (cc Zg) (Zf rfl (cc Zg) (Zf rfl (cc Zg) Zc)))))))
    ·(conv => whnf)
     refine st ?_
     exact wx (WS.mk (tp (Zd (Zq (Z2 (by first | exact rfl | simp only [List.length_set]))) (tp (tp (tc (Zd (Zq (web Zwk)) Zb)))))) (Zf rfl (cc (cc (cc (cc Zg)))) (Zf rfl (cc (cc (cc (cc Zg)))) (Zf rfl (Zet (Z2 (by first | exact rfl | simp only [List.length_set])) (cc Zg)) (Zf rfl (cc Zg) (Zf rfl (cc Zg) (Zf rfl (cc Zg) Zc)))))))
   obtain ⟨r0, hw⟩ := hw
   (conv => whnf)
   refine AWP.weak r0 hw ?_
   refine nw ?_
   refine Zi hF (fun ZE3 hF => ?_) (fun ZE3 hF => ?_)
   ·refine nw ?_
    refine AWP.weak (rn []) ?_ (Zck 0 Zaz ZA ZiI _ hF)
    exact (WS.mk (tp (Zd (Zq (Z2 (by first | exact rfl | simp only [List.length_set]))) (tc Zb))) (Zf rfl (Zet (Z2 (by first | exact rfl | simp only [List.length_set])) (cc Zg)) (Zf rfl (cc Zg) (Zf rfl (cc Zg) (Zf rfl (cc Zg) Zc)))))
   ·refine AWP.seq ?_
    refine ns ?_
    refine nw ?_
    refine Zi hF (fun ZEp hF => ?_) (fun ZEp hF => ?_)
    ·obtain ⟨Zv4, ZDU, hF⟩ := bind_some hF
     refine ns ?_
     refine Exists.intro [] (Exists.intro [(1000, 1000), (7001, 7001), (1002, 1002)] (Exists.intro [] ?_))
     refine st ?_
     refine cm (Zk.weak (rn []) (Zic (Zs.mk ZA Zaz) ZgV.fName Zg1 _ ZDU) rfl (WS.mk (tp (tc (Zd (Zp (lc (lc (lc (lc Zn))))) Zb))) (Zf rfl (Zet (Z2 (by first | exact rfl | simp only [List.length_set])) (cc Zg)) (Zf rfl (cc Zg) (Zf rfl (cc Zg) Zc))))) ?_
     refine st ?_
     refine AWP.weak (rn []) ?_ (Zck Zv4.1 Zv4.2.fat Zv4.2.flist ZiI _ hF)
     exact (WS.mk (tp (Zd (Zq (Z2 (by first | exact rfl | simp only [List.length_set]))) (tc Zb))) (Zf rfl (Zet (Z2 (by first | exact rfl | simp only [List.length_set])) (cc Zg)) (Zf rfl (cc Zg) (Zf rfl (cc Zg) (Zf rfl (cc Zg) Zc)))))
    ·refine AWP.seq ?_
     refine ns ?_
     refine nw ?_
     refine Zi hF (fun ZDV hF => ?_) (fun ZDV hF => ?_)
     ·obtain ⟨ZvA, ZFd, hF⟩ := bind_some hF
      refine ns ?_
      refine Exists.intro [] (Exists.intro [(1000, 1000), (7001, 7001), (1002, 1002)] (Exists.intro [] ?_))
      refine st ?_
      refine cm (Zk.weak (rn []) (Zic (Zs.mk ZA Zaz) Zg1.fName ZgV _ ZFd) rfl (WS.mk (tp (tc (Zd (Zp (lc (lc (lc (lc Zn))))) Zb))) (Zf rfl (Zet (Z2 (by first | exact rfl | simp only [List.length_set])) (cc Zg)) (Zf rfl (cc Zg) (Zf rfl (cc Zg) Zc))))) ?_
      refine st ?_
      refine AWP.weak (rn []) ?_ (Zck ZvA.1 ZvA.2.fat ZvA.2.flist ZiI _ hF)
      exact (WS.mk (tp (Zd (Zq (Z2 (by first | exact rfl | simp only [List.length_set]))) (tc Zb))) (Zf rfl (Zet (Z2 (by first | exact rfl | simp only [List.length_set])) (cc Zg)) (Zf rfl (cc Zg) (Zf rfl (cc Zg) (Zf rfl (cc Zg) Zc)))))
     ·refine AWP.seq ?_
      refine AWP.cutN (fun T => ∃ r, WS r T ⟨[(0, .ptr 1000 0), (1, .c none (.rs 7003 ZiI.length)), (5, .ptr 5 0), (6, .ptr 6 0), (7, .c none (.v (.int .i64 0))), (68, .c none (.v (.bool (((ZgV.fOp == 2) && (Zg1.fOp == 2)) && (ZgV.fName.toList == Zg1.fName.toList)))))], [(5, [(none, .v (.int .i64 ZgV.fOp)), (none, .v (.string ZgV.fName)), (none, .sl (ZgV.fBound.fArgs.map Zj.cells)), (none, .sl (ZgV.fKids.map Za.cells))]), (6, [(none, .v (.int .i64 Zg1.fOp)), (none, .v (.string Zg1.fName)), (none, .sl (Zg1.fBound.fArgs.map Zj.cells)), (none, .sl (Zg1.fKids.map Za.cells))]), (1000, [(none, .rs 7001 ZA.length), (none, .rf 1002)]), (1002, [(none, .ob 109 (Zaz.map (Zdx c_S Zbn)))]), (7001, [(none, .ob 90 (ZA.map Ze.cells))]), (7003, [(none, .ob 76 (ZiI.map Zo.cells))])]⟩) ?_ (fun T hw => ?_)
      ·refine ns ?_
       refine Zl true (fun ZsJ => ?_) (fun ZsJ => ?_)
       ·(conv => whnf)
        refine st ?_
        refine Zl true (fun Zuk => ?_) (fun Zuk => ?_)
        ·(conv => whnf)
         refine st ?_
         exact wx (WS.mk (tp (Zd (Zq (Z2 (by first | exact rfl | simp only [List.length_set]))) (tp (tp (tc (Zd (Zq (web (And.intro ZsJ Zuk))) Zb)))))) (Zf rfl (cc (cc (cc (cc Zg)))) (Zf rfl (cc (cc (cc (cc Zg)))) (Zf rfl (Zet (Z2 (by first | exact rfl | simp only [List.length_set])) (cc Zg)) (Zf rfl (cc Zg) (Zf rfl (cc Zg) (Zf rfl (cc Zg) Zc)))))))
        ·(conv => whnf)
         refine st ?_
         exact wx (WS.mk (tp (Zd (Zq (Z2 (by first | exact rfl | simp only [List.length_set]))) (tp (tp (tc (Zd (Zq (web (And.intro ZsJ Zuk))) Zb)))))) (Zf rfl (cc (cc (cc (cc Zg)))) (Zf rfl (cc (cc (cc (cc Zg)))) (Zf rfl (Zet (Z2 (by first | exact rfl | simp only [List.length_set])) (cc Zg)) (Zf rfl (cc Zg) (Zf rfl (cc Zg) (Zf rfl (cc Zg) Zc)))))))
       ·(conv => whnf)
        refine st ?_
        exact wx (WS.mk (tp (Zd (Zq (Z2 (by first | exact rfl | simp only [List.length_set]))) (tp (tp (tc (Zd (Zq (web ZsJ)) Zb)))))) (Zf rfl (cc (cc (cc (cc Zg)))) (Zf rfl (cc (cc (cc (cc Zg)))) (Zf rfl (Zet (Z2 (by first | exact rfl | simp only [List.length_set])) (cc Zg)) (Zf rfl (cc Zg) (Zf rfl (cc Zg) (Zf rfl (cc Zg) Zc)))))))
      obtain ⟨r0, hw⟩ := hw
      (conv => whnf)
      refine AWP.weak r0 hw ?_
      refine nw ?_
      refine Zi hF (fun ZEY hF => ?_) (fun ZEY hF => ?_)
      ·refine nw ?_
       refine AWP.weak (rn []) ?_ (Zck 0 Zaz ZA ZiI _ hF)
       exact (WS.mk (tp (Zd (Zq (Z2 (by first | exact rfl | simp only [List.length_set]))) (tc Zb))) (Zf rfl (Zet (Z2 (by first | exact rfl | simp only [List.length_set])) (cc Zg)) (Zf rfl (cc Zg) (Zf rfl (cc Zg) (Zf rfl (cc Zg) Zc)))))
      ·refine AWP.seq ?_
       refine AWP.cutN (fun T => ∃ r, WS r T ⟨[(0, .ptr 1000 0), (1, .c none (.rs 7003 ZiI.length)), (5, .ptr 5 0), (6, .ptr 6 0), (7, .c none (.v (.int .i64 0))), (84, .c none (.v (.bool ((ZgV.fOp == 3) && (Zg1.fOp == 3)))))], [(5, [(none, .v (.int .i64 ZgV.fOp)), (none, .v (.string ZgV.fName)), (none, .sl (ZgV.fBound.fArgs.map Zj.cells)), (none, .sl (ZgV.fKids.map Za.cells))]), (6, [(none, .v (.int .i64 Zg1.fOp)), (none, .v (.string Zg1.fName)), (none, .sl (Zg1.fBound.fArgs.map Zj.cells)), (none, .sl (Zg1.fKids.map Za.cells))]), (1000, [(none, .rs 7001 ZA.length), (none, .rf 1002)]), (1002, [(none, .ob 109 (Zaz.map (Zdx c_S Zbn)))]), (7001, [(none, .ob 90 (ZA.map Ze.cells))]), (7003, [(none, .ob 76 (ZiI.map Zo.cells))])]⟩) ?_ (fun T hw => ?_)
       ·refine ns ?_
        refine Zl true (fun Zy2 => ?_) (fun Zy2 => ?_)
        ·(conv => whnf)
         refine st ?_
         exact wx (WS.mk (tp (Zd (Zq (Z2 (by first | exact rfl | simp only [List.length_set]))) (tp (tp (tc (Zd (Zq (web Zy2)) Zb)))))) (Zf rfl (cc (cc (cc (cc Zg)))) (Zf rfl (cc (cc (cc (cc Zg)))) (Zf rfl (Zet (Z2 (by first | exact rfl | simp only [List.length_set])) (cc Zg)) (Zf rfl (cc Zg) (Zf rfl (cc Zg) (Zf rfl (cc Zg) Zc)))))))
        ·(conv => whnf)
         refine st ?_
         exact wx (WS.mk (tp (Zd (Zq (Z2 (by first | exact rfl | simp only [List.length_set]))) (tp (tp (tc (Zd (Zq (web Zy2)) Zb)))))) (Zf rfl (cc (cc (cc (cc Zg)))) (Zf rfl (cc (cc (cc (cc Zg)))) (Zf rfl (Zet (Z2 (by first | exact rfl | simp only [List.length_set])) (cc Zg)) (Zf rfl (cc Zg) (Zf rfl (cc Zg) (Zf rfl (cc Zg) Zc)))))))
       obtain ⟨r0, hw⟩ := hw
       (conv => whnf)
       refine AWP.weak r0 hw ?_
       refine nw ?_
       refine Zi hF (fun ZFe hF => ?_) (fun ZFe hF => ?_)
       ·obtain ⟨ZtD, hx1480, ZD7, hF⟩ := Zd6 hF
        obtain ⟨ZtJ, hx1490, ZFi, hF⟩ := Zd6 hF
        obtain ⟨Zto, hx1500, ZBa, hF⟩ := Zd6 hF
        obtain ⟨ZdV, ZCk, ZzT, hF⟩ := Zd6 hF
        obtain ⟨ZE5, hF⟩ := Zv hF
        refine nn ?_
        refine Or.inl (Or.inl (Exists.intro 20 (Exists.intro [[], [], [], [], [], [], [], [], [], [], [], [], [], [], [], [], [], [], [], []] (Exists.intro [([93, 94, 95, 96, 97, 98, 99, 100, 101, 102, 103, 104, 105, 106, 107, 108, 109, 110, 111, 112], [], []), ([93, 94, 95, 96, 97, 98, 99, 100, 101, 102, 103, 104, 105, 106, 107, 108, 109, 110, 111, 112], [], []), ([93, 95, 96, 97, 98, 99, 100, 101, 102, 103, 104, 105, 106, 107, 108, 109, 110, 111, 112], [], []), ([93, 96, 97, 98, 99, 100, 101, 102, 103, 104, 105, 106, 107, 108, 109, 110, 111, 112], [], []), ([93, 97, 98, 99, 100, 101, 102, 103, 104, 105, 106, 107, 108, 109, 110, 111, 112], [], []), ([93, 94, 95, 96, 97, 98, 99, 100, 101, 102, 103, 104, 105, 106, 107, 108, 109, 110, 111, 112], [], []), ([93, 94, 95, 96, 97, 99, 100, 101, 102, 103, 104, 105, 106, 107, 108, 109, 110, 111, 112], [], []), ([93, 94, 95, 96, 97, 100, 101, 102, 103, 104, 105, 106, 107, 108, 109, 110, 111, 112], [], []), ([93, 94, 95, 96, 97, 101, 102, 103, 104, 105, 106, 107, 108, 109, 110, 111, 112], [], []), ([93, 102, 103, 104, 105, 106, 107, 108, 109, 110, 111, 112], [], []), ([93, 94, 95, 96, 97, 98, 99, 100, 101, 102, 103, 104, 105, 106, 107, 108, 109, 110, 111, 112], [], []), ([93, 94, 95, 96, 97, 98, 99, 100, 101, 102, 104, 105, 106, 107, 108, 109, 110, 111, 112], [], []), ([93, 94, 95, 96, 97, 98, 99, 100, 101, 102, 105, 106, 107, 108, 109, 110, 111, 112], [], []), ([93, 94, 95, 96, 97, 98, 99, 100, 101, 102, 106, 107, 108, 109, 110, 111, 112], [], []), ([93, 94, 95, 96, 97, 98, 99, 100, 101, 102, 103, 104, 105, 106, 107, 108, 109, 110, 111, 112], [], []), ([93, 94, 95, 96, 97, 98, 99, 100, 101, 102, 103, 104, 105, 106, 108, 109, 110, 111, 112], [], []), ([93, 94, 95, 96, 97, 98, 99, 100, 101, 102, 103, 104, 105, 106, 109, 110, 111, 112], [], []), ([93, 94, 95, 96, 97, 98, 99, 100, 101, 102, 103, 104, 105, 106, 110, 111, 112], [], []), ([93, 94, 95, 96, 97, 98, 99, 100, 101, 102, 111, 112], [], []), ([93, 112], [], [])] (Exists.intro [93, 94, 95, 96, 97, 98, 99, 100, 101, 102, 103, 104, 105, 106, 107, 108, 109, 110, 111, 112] (And.intro (by decide +kernel) ?_))))))
        refine dp ?_
        refine dp ?_
        refine dp ?_
        refine dr (Zdi (Za.cells_eq ZtD) ZD7) ?_
        refine dp ?_
        refine dp ?_
        refine dp ?_
        refine dr (Zdi (Za.cells_eq ZtJ) ZFi) ?_
        refine dp ?_
        refine dp ?_
        refine dp ?_
        refine dp ?_
        refine dr (Zdi (Za.cells_eq Zto) ZBa) ?_
        refine dp ?_
        refine dp ?_
        refine dp ?_
        refine dr (Zdi (Za.cells_eq ZdV) ZzT) ?_
        refine dp ?_
        refine dp ?_
        refine de (Zcb (f := Zo.cells) (ZdW (Zo.cells_eq (Zo.mk ZtD ZtJ)) (lc (lc (lc (lc (lc (lc (lc (lc Zn))))))))) (Zcb (f := Zo.cells) (ZdW (Zo.cells_eq (Zo.mk Zto ZdV)) (lc (lc (lc (lc (lc (lc (lc (lc Zn))))))))) (Zap (f := Zo.cells)))) ?_
        refine sa (fun l => ZbH l (fun x => Zo.cells_len x)) ZE5 ?_
        refine Exists.intro (([(Zo.mk ZtD ZtJ), (Zo.mk Zto ZdV)]).map Zo.cells) (Exists.intro ((ZiI ++ ([(Zo.mk ZtD ZtJ), (Zo.mk Zto ZdV)])).map Zo.cells) (Exists.intro (ZiI ++ ([(Zo.mk ZtD ZtJ), (Zo.mk Zto ZdV)])).length (And.intro (WE.refl _) (And.intro (ZrJ (by first | exact rfl | simp only [List.length_set])) (And.intro (ZqA (by first | exact rfl | simp only [List.length_set]) (by first | exact List.length_map _ | exact rfl)) ?_)))))
        refine st ?_
        refine AWP.weak (rn []) ?_ (Zck 0 Zaz ZA (ZiI ++ ([(Zo.mk ZtD ZtJ), (Zo.mk Zto ZdV)])) _ hF)
        exact (WS.mk (tp (Zd (Zq (Z2 (by first | exact rfl | simp only [List.length_set]))) (tc Zb))) (Zf rfl (Zet (Z2 (by first | exact rfl | simp only [List.length_set])) (cc Zg)) (Zf rfl (cc Zg) (Zf rfl (cc Zg) (Zf rfl (cc Zg) Zc)))))
       ·refine ns ?_
        refine AWP.weak (rn []) ?_ (Zck 22 Zaz ZA ZiI _ hF)
        exact (WS.mk (tp (Zd (Zq (Z2 (by first | exact rfl | simp only [List.length_set]))) (tc Zb))) (Zf rfl (Zet (Z2 (by first | exact rfl | simp only [List.length_set])) (cc Zg)) (Zf rfl (cc Zg) (Zf rfl (cc Zg) (Zf rfl (cc Zg) Zc)))))
  ·refine nw ?_
   refine AWP.seq ?_
   refine ns ?_
   obtain rfl := Zh hF
   refine ns ?_
   refine Exists.intro [(1000, 1000), (7001, 7001), (1002, 1002), (7003, 7003)] ?_
   refine st ?_
   exact wx (WS.mk (tc Zb) (Zf rfl (Zet (Z2 (by first | exact rfl | simp only [List.length_set])) (cc Zg)) (Zf rfl (cc Zg) (Zf rfl (cc Zg) (Zf rfl (cc Zg) Zc)))))
 ·intro unify_solver_solve_l1' ZjJ e_7 Zaz ZA Zbs r hF
  unfold Zw.M
  refine AWP.seq ?_
  refine ns ?_
  refine nw ?_
  refine Zi hF (fun ZEB hF => ?_) (fun ZEB hF => ?_)
  ·refine AWP.seq ?_
   refine ns ?_
   refine AWP.seq ?_
   refine ns ?_
   refine AWP.thawB 1000 0 7001 45 rfl rfl ?_
   refine AWP.force ?_
   (conv => whnf)
   refine AWP.seq ?_
   refine ns ?_
   obtain rfl := Zh hF
   refine ns ?_
   refine Exists.intro [(1000, 1000), (7001, 7001), (1002, 1002), (7003, 7003)] ?_
   refine st ?_
   exact wx (WS.mk (tc Zb) (Zf rfl (Zet (Z2 (by first | exact rfl | simp only [List.length_set])) (cc Zg)) (Zf rfl (cc Zg) (Zf rfl (cc Zg) (Zf rfl (cc Zg) Zc)))))
  ·refine nw ?_
   refine AWL.weak (rn []) ?_ (ZjJ Zaz ZA Zbs _ hF)
   exact (WS.mk (tp (Zd (Zq (Z2 (by first | exact rfl | simp only [List.length_set]))) Zb)) (Zf rfl (Zet (Z2 (by first | exact rfl | simp only [List.length_set])) (cc Zg)) (Zf rfl (cc Zg) (Zf rfl (cc Zg) (Zf rfl (cc Zg) Zc)))))
theorem ZjW : ∀ (Zaz : (List (ByteArray × Int))) (ZA : (List Ze)) (Zbs : (List Zo)), ∀ r, ZN Zaz ZA Zbs = some r → ZN.M Zaz ZA Zbs r := Zjs.1

def Zc7 (s : Zs) (todo : (List Zo)) : Option (Int × Zs × (List Zo)) :=
 ZN s.fat s.flist todo
def Zc7.M (s : Zs) (todo : (List Zo)) (r : Int × Zs × (List Zo)) : Prop :=
 Zk Tryz.prog 32 [.ptr 1000 0, .c none (.rs 7003 todo.length)] [(1000, [(none, .rs 7001 s.flist.length), (none, .rf 1002)]), (1002, [(none, .ob 109 (s.fat.map (Zdx c_S Zbn)))]), (7001, [(none, .ob 90 (s.flist.map Ze.cells))]), (7003, [(none, .ob 76 (todo.map Zo.cells))])] (fun d b => d = .c none (.v (.int .i64 r.1)) ∧ b = [(1000, [(none, .rs 7001 r.2.1.flist.length), (none, .rf 1002)]), (1002, [(none, .ob 109 (r.2.1.fat.map (Zdx c_S Zbn)))]), (7001, [(none, .ob 90 (r.2.1.flist.map Ze.cells))]), (7003, [(none, .ob 76 (r.2.2.map Zo.cells))])])
theorem ZlH (s : Zs) (todo : (List Zo)) (r : Int × Zs × (List Zo)) (hF : Zc7 s todo = some r) : Zc7.M s todo r := by
 unfold Zc7 at hF
 unfold Zc7.M
 refine en Tryz.func32 ?_
 refine AWP.seq ?_
 refine ns ?_
 refine AWP.seq ?_
 refine AWP.block ?_
 refine AWP.loop ?_
 refine AWL.weak (rn []) ?_ (ZjW s.fat s.flist todo _ hF)
 exact (WS.mk (tp (Zd (Zq (Z2 (by first | exact rfl | simp only [List.length_set]))) Zb)) (Zf rfl (Zet (Z2 (by first | exact rfl | simp only [List.length_set])) (cc Zg)) (Zf rfl (cc Zg) (Zf rfl (cc Zg) (Zf rfl (cc Zg) Zc)))))

def ZcE (Zei : (List Ze)) (l : (List Ze)) (x_8 : Nat) (ZaJ : (List Ze)) : Option ((List Ze)) :=
 (match ZaJ with
 | x17 :: Zvx =>
 Zbx x17.fType >>= fun r22 =>
 ZV ((Zei.length + ([(Ze.mk x17.fName r22)]).length) * 88 ≤ 140737488355328) >>= fun _ =>
 ZcE (Zei ++ ([(Ze.mk x17.fName r22)])) l (x_8 + 1) Zvx
 | [] =>
 some Zei)
 partial_fixpoint
def ZcE.M (Zei : (List Ze)) (l : (List Ze)) (x_8 : Nat) (ZaJ : (List Ze)) (r : (List Ze)) : Prop :=
 ∀ Zdc : List Ze, l = Zdc ++ ZaJ → x_8 = Zdc.length → l.length ≤ maxLen → AWL Tryz.prog 23 (Code.sub (Zr Tryz.f33) [1, 1, 0, 1, 0, 0]) (Code.cont Tryz.prog 23 (Zr Tryz.f33) [1, 1, 0, 1, 0] (ZbV tab Tryz.f33.results (Zb0 (.c (some (0, 45)) (.sl (r.map Ze.cells))) [(1000, [(none, .ob 90 (l.map Ze.cells))])]))) ⟨[(3, .c (some (3, 45)) (.sl (Zei.map Ze.cells))), (6, .c none (.rs 1000 l.length)), (7, .c none (.v (.int .i64 ((l.length : Nat) : Int)))), (8, .c none (.v (.int .i64 ((x_8 : Nat) : Int))))], [(1000, [(none, .ob 90 (l.map Ze.cells))])]⟩
theorem ZoC (Zei : (List Ze)) (l : (List Ze)) (x_8 : Nat) (ZaJ : (List Ze)) : ∀ r, ZcE Zei l x_8 ZaJ = some r → ZcE.M Zei l x_8 ZaJ r := by
 refine ZcE.partial_correctness l (fun Zei x_8 ZaJ r => ZcE.M Zei l x_8 ZaJ r) ?_ Zei x_8 ZaJ
 intro unify_fresh_l1' ZiY Zei x_8 ZaJ r hF
 have Zn1 := fun (Zei : (List Ze)) (_l : (List Ze)) (x_8 : Nat) (ZaJ : (List Ze)) => ZiY Zei x_8 ZaJ
 clear ZiY
 unfold ZcE.M
 intro Zdc Zht Zg4 hlen1
 refine AWL.step ?_
 refine AWP.seq ?_
 refine ns ?_
 refine AWP.seq ?_
 refine nw ?_
 refine ZF Zht Zg4 (fun x17 Zvx Zvw ZAX ZBp => ?_) (fun Zvw => ?_)
 ·subst Zvw
  refine nw ?_
  refine AWP.seq ?_
  refine AWP.block ?_
  refine AWP.seq ?_
  refine ns ?_
  refine And.intro (ZqM ZAX) ?_
  refine st ?_
  refine sr (ZX (f := Ze.cells) (Ze.cells_eq x17) ZAX) ?_
  refine st ?_
  obtain ⟨r22, Zvy, hF⟩ := bind_some hF
  obtain ⟨ZCL, hF⟩ := Zv hF
  refine nn ?_
  refine Or.inl (Or.inl (Exists.intro 8 (Exists.intro [[], [], [], [], [], [], [], []] (Exists.intro [([12, 13, 14, 15, 16, 17, 18, 19], [], []), ([12, 13, 14, 15, 16, 17, 18, 19], [], []), ([12, 14, 15, 16, 17, 18, 19], [], []), ([12, 13, 14, 15, 16, 17, 18, 19], [], []), ([12, 13, 14, 16, 17, 18, 19], [], []), ([12, 13, 14, 17, 18, 19], [], []), ([12, 18, 19], [], []), ([12, 19], [], [])] (Exists.intro [12, 13, 14, 15, 16, 17, 18, 19] (And.intro (by decide +kernel) ?_))))))
  refine dp ?_
  refine dp ?_
  refine dp ?_
  refine dp ?_
  refine dp ?_
  (refine st ?_; apply Exists.intro; apply Exists.intro; apply And.intro; (focus ((conv => whnf); refine Exists.intro [] ?_; (conv => whnf); refine And.intro rfl ?_; (conv => whnf); refine Zk.mono (Zk.weak (rn []) (Zlt x17.fType _ Zvy) rfl (WS.mk (Zd (Zp (lc (lc (lc (lc Zn))))) Zb) Zc)) ?_; rintro d b ⟨rfl, rfl⟩; exact And.intro rfl (And.intro rfl rfl))); apply And.intro; (focus exact rfl); (conv => whnf))
  refine dp ?_
  refine de (Zcb (f := Ze.cells) (ZdW (Ze.cells_eq (Ze.mk x17.fName r22)) (lc (lc (lc (lc (lc Zn)))))) (Zap (f := Ze.cells))) ?_
  refine sa (fun l => ZbH l (fun x => Ze.cells_len x)) ZCL ?_
  refine Exists.intro _ (And.intro (WE.refl _) ?_)
  rw [← List.map_append]
  refine st ?_
  refine ns ?_
  refine AWL.weak (rn [(20, 3)]) ?_ (Zn1 (Zei ++ ([(Ze.mk x17.fName r22)])) l (x_8 + 1) Zvx _ hF (Zdc ++ [x17]) (by rw [Zht]; simp) (by rw [Zg4]; simp) hlen1)
  exact (WS.mk (Zd (ZaC rfl (WE.refl _)) (Zd (Zq (Z2 (by first | exact rfl | simp only [List.length_set]))) (tc (Zd (Zq (Zc0 (ZP hlen1 ZBp))) Zb)))) (Zf rfl (cc Zg) Zc))
 ·subst Zvw
  refine nw ?_
  refine AWP.seq ?_
  refine ns ?_
  obtain rfl := Zh hF
  refine ns ?_
  refine Exists.intro [(1000, 1000)] ?_
  refine st ?_
  exact Exists.intro (rn [(3, 0)]) (WS.mk (Zd (ZaC rfl (WE.refl _)) Zb) (Zf rfl (cc Zg) Zc))

def ZcG (l : (List Ze)) : Option ((List Ze)) :=
 ZcE ([]) l 0 l
def ZcG.M (l : (List Ze)) (r : (List Ze)) : Prop :=
 Zk Tryz.prog 33 [.c none (.rs 1000 l.length)] [(1000, [(none, .ob 90 (l.map Ze.cells))])] (fun d b => d = .c (some (0, 45)) (.sl (r.map Ze.cells)) ∧ b = [(1000, [(none, .ob 90 (l.map Ze.cells))])])
theorem Zqo (l : (List Ze)) (r : (List Ze)) (hF : ZcG l = some r) : ZcG.M l r := by
 unfold ZcG at hF
 unfold ZcG.M
 refine en Tryz.func33 ?_
 refine AWP.seq ?_
 refine ns ?_
 refine AWP.seq ?_
 refine ns ?_
 refine AWP.seq ?_
 refine AWP.seq ?_
 refine ns ?_
 intro hlen1
 (try rw [List.length_map] at hlen1)
 (try rw [List.length_map])
 refine st ?_
 refine AWP.block ?_
 refine AWP.loop ?_
 refine AWL.weak (rn []) ?_ (ZoC ([]) l 0 l _ hF ([]) rfl rfl hlen1)
 exact (WS.mk (Zd ZjS (Zd (Zq (Z2 (by first | exact rfl | simp only [List.length_set]))) (tc (tc Zb)))) (Zf rfl (cc Zg) Zc))

def Zdk (pairs : (List Zo)) (i_5 : Int) (Zba : (List Zo)) : Option ((List Ze) × Int) :=
 if (decide (i_5 ≥ 0)) = true then
 (ixI pairs i_5) >>= fun x91 =>
 Zcz x91.e0 >>= fun r92 =>
 (if (!r92) = true then some true else (ixI pairs i_5) >>= fun x93 =>
 Zcz x93.e1 >>= fun r94 =>
 some (!r94)) >>= fun c95 =>
 if c95 = true then
 some (([] : List Ze), 1)
 else
 (ixI pairs i_5) >>= fun x98 =>
 ZV ((Zba.length + ([x98]).length) * 144 ≤ 140737488355328) >>= fun _ =>
 Zdk pairs (IntKind.i64.wrap (i_5 - 1)) (Zba ++ ([x98]))
 else
 Zc7 (Zs.mk ([] : List Ze) ([] : List (ByteArray × Int))) Zba >>= fun Zo5 =>
 ZcG Zo5.2.1.flist >>= fun ZuT =>
 some (ZuT, Zo5.1)
 partial_fixpoint
def Zdk.M (pairs : (List Zo)) (i_5 : Int) (Zba : (List Zo)) (r : (List Ze) × Int) : Prop :=
 pairs.length ≤ maxLen → AWL Tryz.prog 50 (Code.sub (Zr Tryz.f15) [1, 1, 0, 1, 0, 0]) (Code.cont Tryz.prog 50 (Zr Tryz.f15) [1, 1, 0, 1, 0] (ZbV tab Tryz.f15.results (Zb0 (.tup [.c (.sl (r.1.map Ze.cells)), .c (.v (.int .i64 r.2))]) []))) ⟨[(0, .c none (.sl (pairs.map Zo.cells))), (4, .c none (.rs 6004 Zba.length)), (5, .c none (.v (.int .i64 i_5)))], [(6004, [(none, .ob 76 (Zba.map Zo.cells))])]⟩
theorem ZpY (pairs : (List Zo)) (i_5 : Int) (Zba : (List Zo)) : ∀ r, Zdk pairs i_5 Zba = some r → Zdk.M pairs i_5 Zba r := by
 refine Zdk.partial_correctness pairs (fun i_5 Zba r => Zdk.M pairs i_5 Zba r) ?_ i_5 Zba
 intro unify_All_l1' Zka i_5 Zba r hF
 have ZpS := fun (_pairs : (List Zo)) (i_5 : Int) (Zba : (List Zo)) => Zka i_5 Zba
 clear Zka
 unfold Zdk.M
 intro hlen50
 refine AWL.step ?_
 refine AWP.seq ?_
 refine AWP.seq ?_
 refine ns ?_
 refine nw ?_
 refine Zi hF (fun ZzK hF => ?_) (fun ZzK hF => ?_)
 ·refine nw ?_
  refine AWP.seq ?_
  refine AWP.block ?_
  refine AWP.seq ?_
  refine AWP.seq ?_
  obtain ⟨x91, hx910, ZGJ, hF⟩ := Zd6 hF
  obtain ⟨r92, Zyo, hF⟩ := bind_some hF
  obtain ⟨c95, Zr4, hF⟩ := bind_some hF
  refine AWP.cutN (fun T => ∃ r, WS r T ⟨[(0, .c none (.sl (pairs.map Zo.cells))), (4, .c none (.rs 6004 Zba.length)), (5, .c none (.v (.int .i64 i_5))), (30, .c none (.v (.bool c95)))], [(6004, [(none, .ob 76 (Zba.map Zo.cells))])]⟩) ?_ (fun T hw => ?_)
  ·refine nn ?_
   refine sr (Zdi (f := Zo.cells) (Zo.cells_eq x91) ZGJ) ?_
   refine st ?_
   refine e3 ?_
   refine st ?_
   refine cm (Zk.weak (rn []) (Zgs x91.e0 _ Zyo) rfl (WS.mk (Zd (Zp (lc (lc (lc (lc Zn))))) Zb) Zc)) ?_
   refine st ?_
   refine Zl false (fun ZvY => ?_) (fun ZvY => ?_)
   ·have Zr4 := ift ZvY Zr4
    (conv => whnf)
    obtain rfl := Zh Zr4
    refine st ?_
    exact wx (WS.mk (tc (Zd (Zq (Z2 (by first | exact rfl | simp only [List.length_set]))) (tc (Zd (Zq (web ZvY)) Zb)))) (Zf rfl (cc Zg) Zc))
   ·have Zr4 := ife ZvY Zr4
    obtain ⟨x93, hx930, ZFU, Zr4⟩ := Zd6 Zr4
    obtain ⟨r94, ZHr, Zr4⟩ := bind_some Zr4
    (conv => whnf)
    refine sr (Zdi (f := Zo.cells) (Zo.cells_eq x93) ZFU) ?_
    refine st ?_
    refine e3 ?_
    refine st ?_
    refine cm (Zk.weak (rn []) (Zgs x93.e1 _ ZHr) rfl (WS.mk (Zd (Zp (lc (lc (lc (lc Zn))))) Zb) Zc)) ?_
    refine st ?_
    obtain rfl := Zh Zr4
    refine st ?_
    exact wx (WS.mk (tc (Zd (Zq (Z2 (by first | exact rfl | simp only [List.length_set]))) (tc (Zd (Zq (web ZvY)) Zb)))) (Zf rfl (cc Zg) Zc))
  obtain ⟨r0, hw⟩ := hw
  (conv => whnf)
  refine AWP.weak r0 hw ?_
  refine nw ?_
  refine Zi hF (fun ZFu hF => ?_) (fun ZFu hF => ?_)
  ·refine AWP.seq ?_
   refine ns ?_
   obtain rfl := Zh hF
   refine ns ?_
   refine Exists.intro [] ?_
   refine st ?_
   exact wx (WS.mk (Zd (Zca (ZbI WE.nil (ZbI (WE.refl _) Zb8))) Zb) Zc)
  ·refine nw ?_
   obtain ⟨x98, hx980, ZGc, hF⟩ := Zd6 hF
   obtain ⟨ZFO, hF⟩ := Zv hF
   refine nn ?_
   refine sr (Zdi (f := Zo.cells) (Zo.cells_eq x98) ZGc) ?_
   refine st ?_
   refine Exists.intro _ (And.intro (Zcb (f := Zo.cells) (ZdW (Zo.cells_eq x98) (lc (lc (lc (lc (lc (lc (lc (lc Zn))))))))) (Zap (f := Zo.cells))) ?_)
   refine sa (fun l => ZbH l (fun x => Zo.cells_len x)) ZFO ?_
   refine Exists.intro (([x98]).map Zo.cells) (Exists.intro ((Zba ++ ([x98])).map Zo.cells) (Exists.intro (Zba ++ ([x98])).length (And.intro (WE.refl _) (And.intro (ZrJ (by first | exact rfl | simp only [List.length_set])) (And.intro (ZqA (by first | exact rfl | simp only [List.length_set]) (by first | exact List.length_map _ | exact rfl)) ?_)))))
   refine st ?_
   refine ns ?_
   refine AWL.weak (rn []) ?_ (ZpS pairs (IntKind.i64.wrap (i_5 - 1)) (Zba ++ ([x98])) _ hF hlen50)
   exact (WS.mk (tc (Zd (Zq (Z2 (by first | exact rfl | simp only [List.length_set]))) (tc Zb))) (Zf rfl (cc Zg) Zc))
 ·refine nw ?_
  refine AWP.seq ?_
  refine ns ?_
  refine AWP.thawB 40 0 6540 45 rfl rfl ?_
  refine AWP.force ?_
  (conv => whnf)
  refine AWP.seq ?_
  obtain ⟨Zo5, ZEN, hF⟩ := bind_some hF
  refine ns ?_
  refine Exists.intro [] (Exists.intro [(40, 1000), (6540, 7001), (38, 1002), (6004, 7003)] (Exists.intro [] ?_))
  refine st ?_
  refine cm (Zk.weak (rn []) (ZlH (Zs.mk ([] : List Ze) ([] : List (ByteArray × Int))) Zba _ ZEN) rfl (WS.mk (tp (Zd (Zq (Z2 (by first | exact rfl | simp only [List.length_set]))) Zb)) (Zf rfl (Zet (Z2 (by first | exact rfl | simp only [List.length_set])) (cc Zg)) (Zf rfl (cc Zg) (Zf rfl (cc Zg) (Zf rfl (cc Zg) Zc)))))) ?_
  refine st ?_
  refine AWP.seq ?_
  obtain ⟨ZuT, ZFa, hF⟩ := bind_some hF
  refine ns ?_
  refine Exists.intro [] (Exists.intro [(6540, 1000)] (Exists.intro [] ?_))
  refine st ?_
  refine cm (Zk.weak (rn []) (Zqo Zo5.2.1.flist _ ZFa) rfl (WS.mk (Zd (Zq (Z2 (by first | exact rfl | simp only [List.length_set]))) Zb) (Zf rfl (cc Zg) Zc))) ?_
  refine st ?_
  obtain rfl := Zh hF
  refine ns ?_
  refine Exists.intro [] ?_
  refine st ?_
  exact wx (WS.mk (Zd (Zca (ZbI (WE.refl _) (ZbI (WE.refl _) Zb8))) Zb) Zc)

def ZgU (pairs : (List Zo)) : Option ((List Ze) × Int) :=
 Zdk pairs (IntKind.i64.wrap (((pairs.length : Nat) : Int) - 1)) ([] : List Zo)
def ZgU.M (pairs : (List Zo)) (r : (List Ze) × Int) : Prop :=
 Zk Tryz.prog 15 [.c none (.sl (pairs.map Zo.cells))] [] (fun d b => d = .tup [.c (.sl (r.1.map Ze.cells)), .c (.v (.int .i64 r.2))] ∧ b = [])
theorem ZsW (pairs : (List Zo)) (r : (List Ze) × Int) (hF : ZgU pairs = some r) : ZgU.M pairs r := by
 unfold ZgU at hF
 unfold ZgU.M
 refine en Tryz.func15 ?_
 refine AWP.seq ?_
 refine ns ?_
 refine AWP.seq ?_
 refine ns ?_
 refine AWP.thaw 4 6004 38 rfl ?_
 refine AWP.force ?_
 (conv => whnf)
 refine AWP.seq ?_
 refine AWP.seq ?_
 refine ns ?_
 intro hlen50
 (try rw [List.length_map] at hlen50)
 (try rw [List.length_map])
 refine st ?_
 refine AWP.block ?_
 refine AWP.loop ?_
 refine AWL.weak (rn []) ?_ (ZpY pairs (IntKind.i64.wrap (((pairs.length : Nat) : Int) - 1)) ([] : List Zo) _ hF hlen50)
 exact (WS.mk (tc (Zd (Zq (Z2 (by first | exact rfl | simp only [List.length_set]))) (tc Zb))) (Zf rfl (cc Zg) Zc))

def Zcq (a : Za) (b : Za) : Option ((List Ze) × Int) :=
 ZgU ([(Zo.mk a b)]) >>= fun r1 =>
 some (r1.1, r1.2)
def Zcq.M (a : Za) (b : Za) (r : (List Ze) × Int) : Prop :=
 Zk Tryz.prog 12 [.agg [.v (.int .i64 a.fOp), .v (.string a.fName), .sl (a.fBound.fArgs.map Zj.cells), .sl (a.fKids.map Za.cells)], .agg [.v (.int .i64 b.fOp), .v (.string b.fName), .sl (b.fBound.fArgs.map Zj.cells), .sl (b.fKids.map Za.cells)]] [] (fun d b => d = .tup [.c (.sl (r.1.map Ze.cells)), .c (.v (.int .i64 r.2))] ∧ b = [])
theorem Zi4 (a : Za) (b : Za) (r : (List Ze) × Int) (hF : Zcq a b = some r) : Zcq.M a b r := by
 unfold Zcq at hF
 unfold Zcq.M
 refine en Tryz.func12 ?_
 refine AWP.seq ?_
 refine ns ?_
 refine AWP.seq ?_
 obtain ⟨r1, hr1, hF⟩ := bind_some hF
 refine ns ?_
 refine Exists.intro _ (And.intro (Zcb (f := Zo.cells) (ZdW (Zo.cells_eq (Zo.mk a b)) (lc (lc (lc (lc (lc (lc (lc (lc Zn))))))))) (Zap (f := Zo.cells))) ?_)
 refine st ?_
 refine Exists.intro [9] (Exists.intro [] (Exists.intro [] ?_))
 refine st ?_
 refine cm (Zk.weak (rn []) (ZsW ([(Zo.mk a b)]) _ hr1) rfl (WS.mk (tc Zb) Zc)) ?_
 refine st ?_
 obtain rfl := Zh hF
 refine ns ?_
 refine Exists.intro [] ?_
 refine st ?_
 exact wx (WS.mk (Zd (Zca (ZbI (WE.refl _) (ZbI (WE.refl _) Zb8))) Zb) Zc)

mutual
def ZS (a : Zj) (b : Zj) : Option (Bool) :=
 if (((a.fArgs.length : Nat) : Int) != ((b.fArgs.length : Nat) : Int)) = true then
 some false
 else
 Za7 0 a b a.fArgs
 partial_fixpoint
def Za7 (i_5 : Nat) (a : Zj) (b : Zj) (Zat : (List Zj)) : Option (Bool) :=
 (match Zat with
 | x32 :: ZDh =>
 (b.fArgs[i_5]?) >>= fun x37 =>
 ZS x32 x37 >>= fun r38 =>
 if (!r38) = true then
 some false
 else
 Za7 (i_5 + 1) a b ZDh
 | [] =>
 some true)
 partial_fixpoint
end
def ZS.M (a : Zj) (b : Zj) (r : Bool) : Prop :=
 Zk Tryz.prog 65 [.agg [.sl (a.fArgs.map Zj.cells)], .agg [.sl (b.fArgs.map Zj.cells)]] [] (fun d b => d = .c none (.v (.bool r)) ∧ b = [])
def Za7.M (i_5 : Nat) (a : Zj) (b : Zj) (Zat : (List Zj)) (r : Bool) : Prop :=
 ∀ Zda : List Zj, a.fArgs = Zda ++ Zat → i_5 = Zda.length → a.fArgs.length ≤ maxLen → b.fArgs.length ≤ maxLen → AWL Tryz.prog 32 (Code.sub (Zr Tryz.f65) [1, 1, 0, 1, 0, 0]) (Code.cont Tryz.prog 32 (Zr Tryz.f65) [1, 1, 0, 1, 0] (ZbV tab Tryz.f65.results (Zb0 (.c none (.v (.bool r))) []))) ⟨[(2, .ptr 2 0), (3, .ptr 3 0), (5, .c none (.v (.int .i64 ((i_5 : Nat) : Int))))], [(2, [(none, .sl (a.fArgs.map Zj.cells))]), (3, [(none, .sl (b.fArgs.map Zj.cells))])]⟩
theorem Zj5 : (∀ (a : Zj) (b : Zj), ∀ r, ZS a b = some r → ZS.M a b r) ∧ (∀ (i_5 : Nat) (a : Zj) (b : Zj) (Zat : (List Zj)), ∀ r, Za7 i_5 a b Zat = some r → Za7.M i_5 a b Zat r) := by
 refine ZS.mutual_partial_correctness ZS.M Za7.M ?_ ?_
 ·intro lazycref04_SameKind_l1' Zer a b r hF
  unfold ZS.M
  refine en Tryz.func65 ?_
  refine AWP.seq ?_
  refine ns ?_
  refine AWP.seq ?_
  refine AWP.seq ?_
  refine ns ?_
  intro hlen4
  (try rw [List.length_map] at hlen4)
  (try rw [List.length_map])
  refine st ?_
  intro hlen5
  (try rw [List.length_map] at hlen5)
  (try rw [List.length_map])
  refine st ?_
  refine nw ?_
  refine Zi hF (fun hc6 hF => ?_) (fun hc6 hF => ?_)
  ·refine AWP.seq ?_
   refine ns ?_
   obtain rfl := Zh hF
   refine ns ?_
   refine Exists.intro [] ?_
   refine st ?_
   exact wx (WS.mk (tc Zb) Zc)
  ·refine nw ?_
   refine AWP.seq ?_
   refine AWP.seq ?_
   refine ns ?_
   refine AWP.block ?_
   refine AWP.loop ?_
   refine AWL.weak (rn []) ?_ (Zer 0 a b a.fArgs _ hF ([]) rfl rfl hlen4 hlen5)
   exact (WS.mk (tp (tp (tc Zb))) (Zf rfl (cc Zg) (Zf rfl (cc Zg) Zc)))
 ·intro lazycref04_SameKind' lazycref04_SameKind_l1' Zk0 Zer i_5 a b Zat r hF
  unfold Za7.M
  intro Zda Zhc Zhn hlen4 hlen5
  refine AWL.step ?_
  refine AWP.seq ?_
  refine AWP.seq ?_
  refine ns ?_
  intro hlen31
  (try rw [List.length_map] at hlen31)
  (try rw [List.length_map])
  refine st ?_
  refine nw ?_
  refine ZF Zhc Zhn (fun x32 ZDh ZCP ZGr ZHh => ?_) (fun ZCP => ?_)
  ·subst ZCP
   refine nw ?_
   refine AWP.seq ?_
   refine AWP.block ?_
   refine AWP.seq ?_
   obtain ⟨x37, ZHm, hF⟩ := bind_some hF
   obtain ⟨r38, ZyS, hF⟩ := bind_some hF
   refine nn ?_
   refine Or.inl (Or.inl (Exists.intro 10 (Exists.intro [[], [], [], [], [], [], [], [], [], []] (Exists.intro [([20, 21, 22, 23, 24, 25, 26, 27, 28, 29], [], []), ([21, 22, 23, 24, 25, 26, 27, 28, 29], [], []), ([20, 21, 22, 23, 24, 25, 26, 27, 28, 29], [], []), ([23, 24, 25, 26, 27, 28, 29], [], []), ([24, 25, 26, 27, 28, 29], [], []), ([20, 21, 22, 23, 24, 25, 26, 27, 28, 29], [], []), ([20, 21, 22, 23, 24, 26, 27, 28, 29], [], []), ([20, 21, 22, 23, 24, 25, 26, 27, 28, 29], [], []), ([20, 21, 22, 23, 24, 28, 29], [], []), ([20, 21, 22, 23, 24, 29], [], [])] (Exists.intro [20, 21, 22, 23, 24, 25, 26, 27, 28, 29] (And.intro (by decide +kernel) ?_))))))
   refine dp ?_
   refine dp ?_
   refine dp ?_
   refine dr (ZX (Zj.cells_eq x32) ZGr) ?_
   refine dp ?_
   refine dp ?_
   refine dp ?_
   refine dp ?_
   refine dr (ZX (Zj.cells_eq x37) ZHm) ?_
   refine dp ?_
   refine st ?_
   refine e3 ?_
   refine st ?_
   refine cm (Zk.weak (rn []) (Zk0 x32 x37 _ ZyS) rfl (WS.mk (Zd (Zp (lc Zn)) (Zd (Zp (lc Zn)) Zb)) Zc)) ?_
   refine st ?_
   refine nw ?_
   refine Zi hF (fun Zjk hF => ?_) (fun Zjk hF => ?_)
   ·refine AWP.seq ?_
    refine ns ?_
    obtain rfl := Zh hF
    refine ns ?_
    refine Exists.intro [] ?_
    refine st ?_
    exact wx (WS.mk (tc Zb) Zc)
   ·refine nw ?_
    refine ns ?_
    refine AWL.weak (rn []) ?_ (Zer (i_5 + 1) a b ZDh _ hF (Zda ++ [x32]) (by rw [Zhc]; simp) (by rw [Zhn]; simp) hlen31 hlen5)
    exact (WS.mk (tp (tp (Zd (Zq (Zc0 (ZP hlen31 ZHh))) Zb))) (Zf rfl (cc Zg) (Zf rfl (cc Zg) Zc)))
  ·subst ZCP
   refine nw ?_
   refine AWP.seq ?_
   refine ns ?_
   obtain rfl := Zh hF
   refine ns ?_
   refine Exists.intro [] ?_
   refine st ?_
   exact wx (WS.mk (tc Zb) Zc)
theorem Zlb : ∀ (a : Zj) (b : Zj), ∀ r, ZS a b = some r → ZS.M a b r := Zj5.1

def Zb6 (l : (List ByteArray)) (s : ByteArray) (i_5 : Int) : Option (Int) :=
 if (decide (i_5 ≥ 0)) = true then
 (ixI l i_5) >>= fun x12 =>
 if (x12.toList == s.toList) = true then
 some i_5
 else
 Zb6 l s (IntKind.i64.wrap (i_5 - 1))
 else
 some (-1)
 partial_fixpoint
def Zb6.M (l : (List ByteArray)) (s : ByteArray) (i_5 : Int) (r : Int) : Prop :=
 l.length ≤ maxLen → AWL Tryz.prog 20 (Code.sub (Zr Tryz.f66) [1, 0, 1, 0, 0]) (Code.cont Tryz.prog 20 (Zr Tryz.f66) [1, 0, 1, 0] (ZbV tab Tryz.f66.results (Zb0 (.c none (.v (.int .i64 r))) []))) ⟨[(0, .c none (.sl (l.map c_S))), (1, .c none (.v (.string s))), (5, .c none (.v (.int .i64 i_5)))], []⟩
theorem Zlx (l : (List ByteArray)) (s : ByteArray) (i_5 : Int) : ∀ r, Zb6 l s i_5 = some r → Zb6.M l s i_5 r := by
 refine Zb6.partial_correctness l s (fun i_5 r => Zb6.M l s i_5 r) ?_ i_5
 intro lazycref04_last_l1' Zhb i_5 r hF
 have ZlN := fun (_l : (List ByteArray)) (_s : ByteArray) (i_5 : Int) => Zhb i_5
 clear Zhb
 unfold Zb6.M
 intro hlen1
 refine AWL.step ?_
 refine AWP.seq ?_
 refine AWP.seq ?_
 refine ns ?_
 refine nw ?_
 refine Zi hF (fun Zct hF => ?_) (fun Zct hF => ?_)
 ·refine nw ?_
  refine AWP.seq ?_
  refine AWP.block ?_
  refine AWP.seq ?_
  obtain ⟨x12, hx120, ZGU, hF⟩ := Zd6 hF
  refine nn ?_
  refine sr (Zdi (f := c_S) rfl ZGU) ?_
  refine st ?_
  refine nw ?_
  refine Zi hF (fun ZcB hF => ?_) (fun ZcB hF => ?_)
  ·refine AWP.seq ?_
   refine ns ?_
   obtain rfl := Zh hF
   refine ns ?_
   refine Exists.intro [] ?_
   refine st ?_
   exact wx (WS.mk (tc Zb) Zc)
  ·refine nw ?_
   refine ns ?_
   refine AWL.weak (rn []) ?_ (ZlN l s (IntKind.i64.wrap (i_5 - 1)) _ hF hlen1)
   exact (WS.mk (tc (tc (tc Zb))) Zc)
 ·refine nw ?_
  refine AWP.seq ?_
  refine ns ?_
  obtain rfl := Zh hF
  refine ns ?_
  refine Exists.intro [] ?_
  refine st ?_
  exact wx (WS.mk (tc Zb) Zc)

def Zbr (l : (List ByteArray)) (s : ByteArray) : Option (Int) :=
 Zb6 l s (IntKind.i64.wrap (((l.length : Nat) : Int) - 1))
def Zbr.M (l : (List ByteArray)) (s : ByteArray) (r : Int) : Prop :=
 Zk Tryz.prog 66 [.c none (.sl (l.map c_S)), .c none (.v (.string s))] [] (fun d b => d = .c none (.v (.int .i64 r)) ∧ b = [])
theorem Zjg (l : (List ByteArray)) (s : ByteArray) (r : Int) (hF : Zbr l s = some r) : Zbr.M l s r := by
 unfold Zbr at hF
 unfold Zbr.M
 refine en Tryz.func66 ?_
 refine AWP.seq ?_
 refine ns ?_
 refine AWP.seq ?_
 refine AWP.seq ?_
 refine ns ?_
 intro hlen1
 (try rw [List.length_map] at hlen1)
 (try rw [List.length_map])
 refine st ?_
 refine AWP.block ?_
 refine AWP.loop ?_
 refine AWL.weak (rn []) ?_ (Zlx l s (IntKind.i64.wrap (((l.length : Nat) : Int) - 1)) _ hF hlen1)
 exact (WS.mk (tc (tc (tc Zb))) Zc)

mutual
def ZG (a : Za) (b : Za) (x : (List ByteArray)) (y : (List ByteArray)) : Option (Bool) :=
 (if ((a.fOp != b.fOp) || (((a.fKids.length : Nat) : Int) != ((b.fKids.length : Nat) : Int))) = true then some true else ZS a.fBound b.fBound >>= fun r8 =>
 some (!r8)) >>= fun c9 =>
 if c9 = true then
 some false
 else
 if (a.fOp == 1) = true then
 Zbr x a.fName >>= fun r60 =>
 Zbr y b.fName >>= fun r61 =>
 some ((r60 == r61) && ((decide (r60 ≥ 0)) || (a.fName.toList == b.fName.toList)))
 else
 if (a.fOp == 4) = true then
 ZV ((0 + x.length) * 16 ≤ 140737488355328) >>= fun _ =>
 ZV ((x.length + ([a.fName]).length) * 16 ≤ 140737488355328) >>= fun _ =>
 ZV ((0 + y.length) * 16 ≤ 140737488355328) >>= fun _ =>
 ZV ((y.length + ([b.fName]).length) * 16 ≤ 140737488355328) >>= fun _ =>
 Zae (x ++ ([a.fName])) (y ++ ([b.fName])) a b
 else
 if (!(a.fName.toList == b.fName.toList)) = true then
 some false
 else
 Zae x y a b
 partial_fixpoint
def Zae (x_2 : (List ByteArray)) (y_3 : (List ByteArray)) (a : Za) (b : Za) : Option (Bool) :=
 ZC x_2 y_3 0 a b a.fKids
 partial_fixpoint
def ZC (x_2 : (List ByteArray)) (y_3 : (List ByteArray)) (Zh8 : Nat) (a : Za) (b : Za) (ZdD : (List Za)) : Option (Bool) :=
 (match ZdD with
 | x49 :: ZCi =>
 (b.fKids[Zh8]?) >>= fun x54 =>
 ZG x49 x54 x_2 y_3 >>= fun r55 =>
 if (!r55) = true then
 some false
 else
 ZC x_2 y_3 (Zh8 + 1) a b ZCi
 | [] =>
 some true)
 partial_fixpoint
end
def ZG.M (a : Za) (b : Za) (x : (List ByteArray)) (y : (List ByteArray)) (r : Bool) : Prop :=
 Zk Tryz.prog 40 [.agg [.v (.int .i64 a.fOp), .v (.string a.fName), .sl (a.fBound.fArgs.map Zj.cells), .sl (a.fKids.map Za.cells)], .agg [.v (.int .i64 b.fOp), .v (.string b.fName), .sl (b.fBound.fArgs.map Zj.cells), .sl (b.fKids.map Za.cells)], .c none (.sl (x.map c_S)), .c none (.sl (y.map c_S))] [] (fun d b => d = .c none (.v (.bool r)) ∧ b = [])
def Zae.M (x_2 : (List ByteArray)) (y_3 : (List ByteArray)) (a : Za) (b : Za) (r : Bool) : Prop :=
 AWP Tryz.prog 108 (Code.sub (Zr Tryz.f40) [1, 1, 1]) (Code.cont Tryz.prog 108 (Zr Tryz.f40) [1, 1, 1] (ZbV tab Tryz.f40.results (Zb0 (.c none (.v (.bool r))) []))) ⟨[(2, .c none (.sl (x_2.map c_S))), (3, .c none (.sl (y_3.map c_S))), (4, .ptr 4 0), (5, .ptr 5 0)], [(4, [(none, .v (.int .i64 a.fOp)), (none, .v (.string a.fName)), (none, .sl (a.fBound.fArgs.map Zj.cells)), (none, .sl (a.fKids.map Za.cells))]), (5, [(none, .v (.int .i64 b.fOp)), (none, .v (.string b.fName)), (none, .sl (b.fBound.fArgs.map Zj.cells)), (none, .sl (b.fKids.map Za.cells))])]⟩
def ZC.M (x_2 : (List ByteArray)) (y_3 : (List ByteArray)) (Zh8 : Nat) (a : Za) (b : Za) (ZdD : (List Za)) (r : Bool) : Prop :=
 ∀ Zhk : List Za, a.fKids = Zhk ++ ZdD → Zh8 = Zhk.length → AWL Tryz.prog 108 (Code.sub (Zr Tryz.f40) [1, 1, 1, 0, 1, 0, 0]) (Code.cont Tryz.prog 108 (Zr Tryz.f40) [1, 1, 1, 0, 1, 0] (ZbV tab Tryz.f40.results (Zb0 (.c none (.v (.bool r))) []))) ⟨[(2, .c none (.sl (x_2.map c_S))), (3, .c none (.sl (y_3.map c_S))), (4, .ptr 4 0), (5, .ptr 5 0), (13, .c none (.v (.int .i64 ((Zh8 : Nat) : Int))))], [(4, [(none, .v (.int .i64 a.fOp)), (none, .v (.string a.fName)), (none, .sl (a.fBound.fArgs.map Zj.cells)), (none, .sl (a.fKids.map Za.cells))]), (5, [(none, .v (.int .i64 b.fOp)), (none, .v (.string b.fName)), (none, .sl (b.fBound.fArgs.map Zj.cells)), (none, .sl (b.fKids.map Za.cells))])]⟩
theorem Zmk : (∀ (a : Za) (b : Za) (x : (List ByteArray)) (y : (List ByteArray)), ∀ r, ZG a b x y = some r → ZG.M a b x y r) ∧ (∀ (x_2 : (List ByteArray)) (y_3 : (List ByteArray)) (a : Za) (b : Za), ∀ r, Zae x_2 y_3 a b = some r → Zae.M x_2 y_3 a b r) ∧ (∀ (x_2 : (List ByteArray)) (y_3 : (List ByteArray)) (Zh8 : Nat) (a : Za) (b : Za) (ZdD : (List Za)), ∀ r, ZC x_2 y_3 Zh8 a b ZdD = some r → ZC.M x_2 y_3 Zh8 a b ZdD r) := by
 refine ZG.mutual_partial_correctness ZG.M Zae.M ZC.M ?_ ?_ ?_
 ·intro lazycref04_Alike_k1' Zg7 a b x y r hF
  unfold ZG.M
  refine en Tryz.func40 ?_
  refine AWP.seq ?_
  refine ns ?_
  refine AWP.seq ?_
  refine AWP.seq ?_
  obtain ⟨c9, hc9, hF⟩ := bind_some hF
  refine AWP.cutN (fun T => ∃ r, WS r T ⟨[(2, .c none (.sl (x.map c_S))), (3, .c none (.sl (y.map c_S))), (4, .ptr 4 0), (5, .ptr 5 0), (35, .c none (.v (.bool c9)))], [(4, [(none, .v (.int .i64 a.fOp)), (none, .v (.string a.fName)), (none, .sl (a.fBound.fArgs.map Zj.cells)), (none, .sl (a.fKids.map Za.cells))]), (5, [(none, .v (.int .i64 b.fOp)), (none, .v (.string b.fName)), (none, .sl (b.fBound.fArgs.map Zj.cells)), (none, .sl (b.fKids.map Za.cells))])]⟩) ?_ (fun T hw => ?_)
  ·refine ns ?_
   refine Zl false (fun ZeW => ?_) (fun ZeW => ?_)
   ·(conv => whnf)
    have hc9 := ift ZeW hc9
    obtain rfl := Zh hc9
    refine st ?_
    exact wx (WS.mk (tc (tc (tp (tp (Zd (Zq (web ZeW)) Zb))))) (Zf rfl (cc (cc (cc (cc Zg)))) (Zf rfl (cc (cc (cc (cc Zg)))) Zc)))
   ·(conv => whnf)
    refine st ?_
    intro hlen6
    (try rw [List.length_map] at hlen6)
    (try rw [List.length_map])
    refine st ?_
    intro hlen7
    (try rw [List.length_map] at hlen7)
    (try rw [List.length_map])
    refine st ?_
    refine Zl false (fun Zct => ?_) (fun Zct => ?_)
    ·have hc9 := ift (And.intro ZeW Zct) hc9
     (conv => whnf)
     obtain rfl := Zh hc9
     refine st ?_
     exact wx (WS.mk (tc (tc (tp (tp (Zd (Zq (web (And.intro ZeW Zct))) Zb))))) (Zf rfl (cc (cc (cc (cc Zg)))) (Zf rfl (cc (cc (cc (cc Zg)))) Zc)))
    ·have hc9 := ife (And.intro ZeW Zct) hc9
     obtain ⟨r8, hr8, hc9⟩ := bind_some hc9
     (conv => whnf)
     refine st ?_
     refine e3 ?_
     refine st ?_
     refine cm (Zk.weak (rn []) (Zlb a.fBound b.fBound _ hr8) rfl (WS.mk (Zd (Zp (lc Zn)) (Zd (Zp (lc Zn)) Zb)) Zc)) ?_
     refine st ?_
     obtain rfl := Zh hc9
     refine st ?_
     exact wx (WS.mk (tc (tc (tp (tp (Zd (Zq (web (And.intro ZeW Zct))) Zb))))) (Zf rfl (cc (cc (cc (cc Zg)))) (Zf rfl (cc (cc (cc (cc Zg)))) Zc)))
  obtain ⟨r0, hw⟩ := hw
  (conv => whnf)
  refine AWP.weak r0 hw ?_
  refine nw ?_
  refine Zi hF (fun Zeo hF => ?_) (fun Zeo hF => ?_)
  ·refine AWP.seq ?_
   refine ns ?_
   obtain rfl := Zh hF
   refine ns ?_
   refine Exists.intro [] ?_
   refine st ?_
   exact wx (WS.mk (tc Zb) Zc)
  ·refine nw ?_
   refine AWP.seq ?_
   refine AWP.seq ?_
   refine ns ?_
   refine AWP.block ?_
   refine AWP.seq ?_
   refine ns ?_
   refine nw ?_
   refine Zi hF (fun Zje hF => ?_) (fun Zje hF => ?_)
   ·refine AWP.seq ?_
    obtain ⟨r60, ZBl, hF⟩ := bind_some hF
    obtain ⟨r61, ZzU, hF⟩ := bind_some hF
    refine nn ?_
    refine Or.inl (Or.inr (Exists.intro [0, 4, 5, 6] (Exists.intro [[45, 49, 50, 51], [45, 49, 50, 51], [45, 49, 50, 51], [45, 49, 51]] (Exists.intro [5] (Exists.intro [2, 3, 5, 45, 49, 50, 51] (Exists.intro [45, 49, 50, 51] (Exists.intro [1, 2, 3, 7, 8, 9] (And.intro (by decide +kernel) ?_))))))))
    refine dp ?_
    refine dp ?_
    refine dp ?_
    refine dp ?_
    refine st ?_
    refine e3 ?_
    refine st ?_
    refine cm (Zk.weak (rn []) (Zjg x a.fName _ ZBl) rfl (WS.mk (tc (tc Zb)) Zc)) ?_
    refine st ?_
    refine e3 ?_
    refine st ?_
    refine cm (Zk.weak (rn []) (Zjg y b.fName _ ZzU) rfl (WS.mk (tc (tc Zb)) Zc)) ?_
    refine st ?_
    refine AWP.seq ?_
    refine AWP.cutN (fun T => ∃ r, WS r T ⟨[(8, .c none (.v (.bool ((r60 == r61) && ((decide (r60 ≥ 0)) || (a.fName.toList == b.fName.toList))))))], []⟩) ?_ (fun T hw => ?_)
    ·refine ns ?_
     refine Zl true (fun ZuL => ?_) (fun ZuL => ?_)
     ·(conv => whnf)
      refine st ?_
      refine Zl false (fun Zp4 => ?_) (fun Zp4 => ?_)
      ·(conv => whnf)
       refine st ?_
       exact wx (WS.mk (Zd (Zq (web (And.intro ZuL Zp4))) Zb) Zc)
      ·(conv => whnf)
       refine st ?_
       exact wx (WS.mk (Zd (Zq (web (And.intro ZuL Zp4))) Zb) Zc)
     ·(conv => whnf)
      refine st ?_
      exact wx (WS.mk (Zd (Zq (web ZuL)) Zb) Zc)
    obtain ⟨r0, hw⟩ := hw
    (conv => whnf)
    refine AWP.weak r0 hw ?_
    obtain rfl := Zh hF
    refine ns ?_
    refine Exists.intro [] ?_
    refine st ?_
    exact wx (WS.mk (tc Zb) Zc)
   ·refine AWP.seq ?_
    refine ns ?_
    refine nw ?_
    refine Zi hF (fun ZqS hF => ?_) (fun ZqS hF => ?_)
    ·refine AWP.seq ?_
     refine ns ?_
     refine AWP.seq ?_
     obtain ⟨ZHG, hF⟩ := Zv hF
     refine nn ?_
     refine sa (fun l => ZbH l (fun x => Zfv x)) ZHG ?_
     refine Exists.intro _ (And.intro (WE.refl _) ?_)
     (try rw [List.nil_append])
     refine st ?_
     refine AWP.seq ?_
     obtain ⟨ZGe, hF⟩ := Zv hF
     refine ns ?_
     refine Exists.intro _ (And.intro (Zcb (f := c_S) (lc Zn) (Zap (f := c_S))) ?_)
     refine sa (fun l => ZbH l (fun x => Zfv x)) ZGe ?_
     refine Exists.intro _ (And.intro (WE.refl _) ?_)
     rw [← List.map_append]
     refine st ?_
     refine AWP.seq ?_
     obtain ⟨ZGI, hF⟩ := Zv hF
     refine nn ?_
     refine sa (fun l => ZbH l (fun x => Zfv x)) ZGI ?_
     refine Exists.intro _ (And.intro (WE.refl _) ?_)
     (try rw [List.nil_append])
     refine st ?_
     refine AWP.seq ?_
     obtain ⟨ZG3, hF⟩ := Zv hF
     refine ns ?_
     refine Exists.intro _ (And.intro (Zcb (f := c_S) (lc Zn) (Zap (f := c_S))) ?_)
     refine sa (fun l => ZbH l (fun x => Zfv x)) ZG3 ?_
     refine Exists.intro _ (And.intro (WE.refl _) ?_)
     rw [← List.map_append]
     refine st ?_
     refine AWP.seq ?_
     refine ns ?_
     refine ns ?_
     refine AWP.weak (rn []) ?_ (Zg7 (x ++ ([a.fName])) (y ++ ([b.fName])) a b _ hF)
     exact (WS.mk (tc (tc (tp (tp Zb)))) (Zf rfl (cc (cc (cc (cc Zg)))) (Zf rfl (cc (cc (cc (cc Zg)))) Zc)))
    ·refine AWP.seq ?_
     refine ns ?_
     refine nw ?_
     refine Zi hF (fun ZB8 hF => ?_) (fun ZB8 hF => ?_)
     ·refine AWP.seq ?_
      refine ns ?_
      obtain rfl := Zh hF
      refine ns ?_
      refine Exists.intro [] ?_
      refine st ?_
      exact wx (WS.mk (tc Zb) Zc)
     ·refine nw ?_
      refine AWP.weak (rn []) ?_ (Zg7 x y a b _ hF)
      exact (WS.mk (tc (tc (tp (tp Zb)))) (Zf rfl (cc (cc (cc (cc Zg)))) (Zf rfl (cc (cc (cc (cc Zg)))) Zc)))
 ·intro lazycref04_Alike_l2' Zfe x_2 y_3 a b r hF
  unfold Zae.M
  refine AWP.seq ?_
  refine AWP.seq ?_
  refine ns ?_
  refine AWP.block ?_
  refine AWP.loop ?_
  refine AWL.weak (rn []) ?_ (Zfe x_2 y_3 0 a b a.fKids _ hF ([]) rfl rfl)
  exact (WS.mk (tc (tc (tp (tp (tc Zb))))) (Zf rfl (cc (cc (cc (cc Zg)))) (Zf rfl (cc (cc (cc (cc Zg)))) Zc)))
 ·intro lazycref04_Alike' lazycref04_Alike_l2' Zna Zfe x_2 y_3 Zh8 a b ZdD r hF
  unfold ZC.M
  intro Zhk ZoG Zos
  refine AWL.step ?_
  refine AWP.seq ?_
  refine AWP.seq ?_
  refine ns ?_
  intro hlen48
  (try rw [List.length_map] at hlen48)
  (try rw [List.length_map])
  refine st ?_
  refine nw ?_
  refine ZF ZoG Zos (fun x49 ZCi ZDi ZBB ZFF => ?_) (fun ZDi => ?_)
  ·subst ZDi
   refine nw ?_
   refine AWP.seq ?_
   refine AWP.block ?_
   refine AWP.seq ?_
   obtain ⟨x54, ZG7, hF⟩ := bind_some hF
   obtain ⟨r55, ZGg, hF⟩ := bind_some hF
   refine nn ?_
   refine Or.inl (Or.inl (Exists.intro 12 (Exists.intro [[], [], [], [], [], [], [], [], [], [], [], []] (Exists.intro [([94, 95, 96, 97, 98, 99, 100, 101, 102, 103, 104, 105], [], []), ([95, 96, 97, 98, 99, 100, 101, 102, 103, 104, 105], [], []), ([94, 95, 96, 97, 98, 99, 100, 101, 102, 103, 104, 105], [], []), ([97, 98, 99, 100, 101, 102, 103, 104, 105], [], []), ([98, 99, 100, 101, 102, 103, 104, 105], [], []), ([94, 95, 96, 97, 98, 99, 100, 101, 102, 103, 104, 105], [], []), ([94, 95, 96, 97, 98, 100, 101, 102, 103, 104, 105], [], []), ([94, 95, 96, 97, 98, 99, 100, 101, 102, 103, 104, 105], [], []), ([94, 95, 96, 97, 98, 102, 103, 104, 105], [], []), ([94, 95, 96, 97, 98, 103, 104, 105], [], []), ([94, 95, 96, 97, 98, 99, 100, 101, 102, 103, 104, 105], [], []), ([94, 95, 96, 97, 98, 99, 100, 101, 102, 103, 104, 105], [], [])] (Exists.intro [94, 95, 96, 97, 98, 99, 100, 101, 102, 103, 104, 105] (And.intro (by decide +kernel) ?_))))))
   refine dp ?_
   refine dp ?_
   refine dp ?_
   refine dr (ZX (Za.cells_eq x49) ZBB) ?_
   refine dp ?_
   refine dp ?_
   refine dp ?_
   refine dp ?_
   refine dr (ZX (Za.cells_eq x54) ZG7) ?_
   refine dp ?_
   refine dp ?_
   refine dp ?_
   refine st ?_
   refine e3 ?_
   refine st ?_
   refine cm (Zk.weak (rn []) (Zna x49 x54 x_2 y_3 _ ZGg) rfl (WS.mk (Zd (Zp (lc (lc (lc (lc Zn))))) (Zd (Zp (lc (lc (lc (lc Zn))))) (tc (tc Zb)))) Zc)) ?_
   refine st ?_
   refine nw ?_
   refine Zi hF (fun ZiJ hF => ?_) (fun ZiJ hF => ?_)
   ·refine AWP.seq ?_
    refine ns ?_
    obtain rfl := Zh hF
    refine ns ?_
    refine Exists.intro [] ?_
    refine st ?_
    exact wx (WS.mk (tc Zb) Zc)
   ·refine nw ?_
    refine ns ?_
    refine AWL.weak (rn []) ?_ (Zfe x_2 y_3 (Zh8 + 1) a b ZCi _ hF (Zhk ++ [x49]) (by rw [ZoG]; simp) (by rw [Zos]; simp))
    exact (WS.mk (tc (tc (tp (tp (Zd (Zq (Zc0 (ZP hlen48 ZFF))) Zb))))) (Zf rfl (cc (cc (cc (cc Zg)))) (Zf rfl (cc (cc (cc (cc Zg)))) Zc)))
  ·subst ZDi
   refine nw ?_
   refine AWP.seq ?_
   refine ns ?_
   obtain rfl := Zh hF
   refine ns ?_
   refine Exists.intro [] ?_
   refine st ?_
   exact wx (WS.mk (tc Zb) Zc)
theorem Znb : ∀ (a : Za) (b : Za) (x : (List ByteArray)) (y : (List ByteArray)), ∀ r, ZG a b x y = some r → ZG.M a b x y r := Zmk.1

def ZaO (a : Za) (b : Za) : Option (Bool) :=
 ZaG a >>= fun r1 =>
 (if (r1 == 0) = true then ZaG b >>= fun r2 =>
 some (r2 == 0) else some false) >>= fun c3 =>
 (if c3 = true then ZG a b ([] : List ByteArray) ([] : List ByteArray) >>= fun r4 =>
 some r4 else some false) >>= fun c5 =>
 some c5
def ZaO.M (a : Za) (b : Za) (r : Bool) : Prop :=
 Zk Tryz.prog 18 [.agg [.v (.int .i64 a.fOp), .v (.string a.fName), .sl (a.fBound.fArgs.map Zj.cells), .sl (a.fKids.map Za.cells)], .agg [.v (.int .i64 b.fOp), .v (.string b.fName), .sl (b.fBound.fArgs.map Zj.cells), .sl (b.fKids.map Za.cells)]] [] (fun d b => d = .c none (.v (.bool r)) ∧ b = [])
theorem Zf7 (a : Za) (b : Za) (r : Bool) (hF : ZaO a b = some r) : ZaO.M a b r := by
 unfold ZaO at hF
 unfold ZaO.M
 refine en Tryz.func18 ?_
 refine AWP.seq ?_
 refine ns ?_
 refine AWP.seq ?_
 obtain ⟨r1, hr1, hF⟩ := bind_some hF
 obtain ⟨c3, hc3, hF⟩ := bind_some hF
 obtain ⟨c5, hc5, hF⟩ := bind_some hF
 refine AWP.cutN (fun T => ∃ r, WS r T ⟨[(4, .c none (.v (.bool c5)))], []⟩) ?_ (fun T hw => ?_)
 ·refine ns ?_
  refine e3 ?_
  refine st ?_
  refine cm (Zk.weak (rn []) (ZdT a _ hr1) rfl (WS.mk (Zd (Zp (lc (lc (lc (lc Zn))))) Zb) Zc)) ?_
  refine st ?_
  refine Zl true (fun hc6 => ?_) (fun hc6 => ?_)
  ·have hc3 := ift hc6 hc3
   obtain ⟨r2, hr2, hc3⟩ := bind_some hc3
   (conv => whnf)
   refine st ?_
   refine e3 ?_
   refine st ?_
   refine cm (Zk.weak (rn []) (ZdT b _ hr2) rfl (WS.mk (Zd (Zp (lc (lc (lc (lc Zn))))) Zb) Zc)) ?_
   refine st ?_
   obtain rfl := Zh hc3
   refine st ?_
   refine Zl true (fun hc7 => ?_) (fun hc7 => ?_)
   ·have hc5 := ift (And.intro hc6 hc7) hc5
    obtain ⟨r4, hr4, hc5⟩ := bind_some hc5
    (conv => whnf)
    refine st ?_
    refine e3 ?_
    refine st ?_
    refine cm (Zk.weak (rn []) (Znb a b ([] : List ByteArray) ([] : List ByteArray) _ hr4) rfl (WS.mk (Zd (Zp (lc (lc (lc (lc Zn))))) (Zd (Zp (lc (lc (lc (lc Zn))))) (Zd (Zq WE.nil) (Zd (Zq WE.nil) Zb)))) Zc)) ?_
    refine st ?_
    obtain rfl := Zh hc5
    refine st ?_
    exact wx (WS.mk (Zd (Zq (web (And.intro hc6 hc7))) Zb) Zc)
   ·have hc5 := ife (And.intro hc6 hc7) hc5
    (conv => whnf)
    obtain rfl := Zh hc5
    refine st ?_
    exact wx (WS.mk (Zd (Zq (web (And.intro hc6 hc7))) Zb) Zc)
  ·have hc3 := ife hc6 hc3
   (conv => whnf)
   obtain rfl := Zh hc3
   have hc5 := ife hc6 hc5
   obtain rfl := Zh hc5
   refine st ?_
   exact wx (WS.mk (Zd (Zq (web hc6)) Zb) Zc)
 obtain ⟨r0, hw⟩ := hw
 (conv => whnf)
 refine AWP.weak r0 hw ?_
 obtain rfl := Zh hF
 refine ns ?_
 refine Exists.intro [] ?_
 refine st ?_
 exact wx (WS.mk (tc Zb) Zc)

def Zbi (a : (List Ze)) (b : (List Ze)) (i_5 : Nat) (Zat : (List Ze)) : Option (Bool) :=
 (match Zat with
 | x44 :: ZCf =>
 (b[i_5]?) >>= fun x51 =>
 (if (!(x44.fName.toList == x51.fName.toList)) = true then some true else (b[i_5]?) >>= fun x52 =>
 ZaO x44.fType x52.fType >>= fun r53 =>
 some (!r53)) >>= fun c54 =>
 if c54 = true then
 some false
 else
 Zbi a b (i_5 + 1) ZCf
 | [] =>
 some true)
 partial_fixpoint
def Zbi.M (a : (List Ze)) (b : (List Ze)) (i_5 : Nat) (Zat : (List Ze)) (r : Bool) : Prop :=
 ∀ Zda : List Ze, a = Zda ++ Zat → i_5 = Zda.length → a.length ≤ maxLen → b.length ≤ maxLen → AWL Tryz.prog 42 (Code.sub (Zr Tryz.f14) [1, 1, 0, 1, 0, 0]) (Code.cont Tryz.prog 42 (Zr Tryz.f14) [1, 1, 0, 1, 0] (ZbV tab Tryz.f14.results (Zb0 (.c none (.v (.bool r))) []))) ⟨[(0, .c none (.sl (a.map Ze.cells))), (1, .c none (.sl (b.map Ze.cells))), (5, .c none (.v (.int .i64 ((i_5 : Nat) : Int))))], []⟩
theorem Zlz (a : (List Ze)) (b : (List Ze)) (i_5 : Nat) (Zat : (List Ze)) : ∀ r, Zbi a b i_5 Zat = some r → Zbi.M a b i_5 Zat r := by
 refine Zbi.partial_correctness a b (fun i_5 Zat r => Zbi.M a b i_5 Zat r) ?_ i_5 Zat
 intro lazycref18_Same_l1' Zhl i_5 Zat r hF
 have ZlC := fun (_a : (List Ze)) (_b : (List Ze)) (i_5 : Nat) (Zat : (List Ze)) => Zhl i_5 Zat
 clear Zhl
 unfold Zbi.M
 intro Zda Zhc Zhn hlen4 hlen5
 refine AWL.step ?_
 refine AWP.seq ?_
 refine AWP.seq ?_
 refine ns ?_
 intro hlen43
 (try rw [List.length_map] at hlen43)
 (try rw [List.length_map])
 refine st ?_
 refine nw ?_
 refine ZF Zhc Zhn (fun x44 ZCf ZC6 ZD6 ZFt => ?_) (fun ZC6 => ?_)
 ·subst ZC6
  refine nw ?_
  refine AWP.seq ?_
  refine AWP.block ?_
  refine AWP.seq ?_
  obtain ⟨x51, ZBB, hF⟩ := bind_some hF
  obtain ⟨c54, ZeS, hF⟩ := bind_some hF
  refine AWP.cutN (fun T => ∃ r, WS r T ⟨[(0, .c none (.sl (a.map Ze.cells))), (1, .c none (.sl (b.map Ze.cells))), (5, .c none (.v (.int .i64 ((i_5 : Nat) : Int)))), (41, .c none (.v (.bool c54)))], []⟩) ?_ (fun T hw => ?_)
  ·refine nn ?_
   refine Or.inl (Or.inl (Exists.intro 22 (Exists.intro [[], [], [], [], [], [], [], [], [], [], [], [], [], [], [], [], [], [], [], [], [], []] (Exists.intro [([17, 18, 19, 20, 21, 22, 23, 24, 25, 26, 27, 28, 29, 30, 31, 32, 33, 34, 35, 36, 37, 38], [], []), ([17, 18, 19, 20, 21, 22, 23, 24, 25, 26, 27, 28, 29, 30, 31, 32, 33, 34, 35, 36, 37, 38], [], []), ([19, 20, 21, 22, 23, 24, 25, 26, 27, 28, 29, 30, 31, 32, 33, 34, 35, 36, 37, 38], [], []), ([20, 21, 22, 23, 24, 25, 26, 27, 28, 29, 30, 31, 32, 33, 34, 35, 36, 37, 38], [], []), ([21, 22, 23, 24, 25, 26, 27, 28, 29, 30, 31, 32, 33, 34, 35, 36, 37, 38], [], []), ([17, 18, 19, 20, 21, 22, 23, 24, 25, 26, 27, 28, 29, 30, 31, 32, 33, 34, 35, 36, 37, 38], [], []), ([17, 18, 19, 20, 21, 22, 23, 24, 25, 26, 27, 28, 29, 30, 31, 32, 33, 34, 35, 36, 37, 38], [], []), ([17, 18, 19, 20, 21, 24, 25, 26, 27, 28, 29, 30, 31, 32, 33, 34, 35, 36, 37, 38], [], []), ([17, 18, 19, 20, 21, 25, 26, 27, 28, 29, 30, 31, 32, 33, 34, 35, 36, 37, 38], [], []), ([17, 18, 19, 20, 21, 26, 27, 28, 29, 30, 31, 32, 33, 34, 35, 36, 37, 38], [], []), ([27, 28, 29, 30, 31, 32, 33, 34, 35, 36, 37, 38], [], []), ([28, 29, 30, 31, 32, 33, 34, 35, 36, 37, 38], [], []), ([29, 30, 31, 32, 33, 34, 35, 36, 37, 38], [], []), ([29, 30, 31, 32, 33, 34, 35, 36, 37, 38], [], []), ([31, 32, 33, 34, 35, 36, 37, 38], [], []), ([32, 33, 34, 35, 36, 37, 38], [], []), ([33, 34, 35, 36, 37, 38], [], []), ([29, 30, 31, 32, 33, 34, 35, 36, 37, 38], [], []), ([29, 30, 31, 32, 33, 34, 35, 36, 37, 38], [], []), ([29, 30, 31, 32, 33, 36, 37, 38], [], []), ([29, 30, 31, 32, 33, 37, 38], [], []), ([29, 30, 31, 32, 33, 38], [], [])] (Exists.intro [17, 18, 19, 20, 21, 22, 23, 24, 25, 26, 27, 28, 29, 30, 31, 32, 33, 34, 35, 36, 37, 38] (And.intro (by decide +kernel) ?_))))))
   refine dp ?_
   refine dp ?_
   refine dr (ZX (Ze.cells_eq x44) ZD6) ?_
   refine dp ?_
   refine dp ?_
   refine dp ?_
   refine dp ?_
   refine dr (ZX (Ze.cells_eq x51) ZBB) ?_
   refine dp ?_
   refine dp ?_
   refine dp ?_
   refine dp ?_
   refine st ?_
   refine Zl false (fun ZnA => ?_) (fun ZnA => ?_)
   ·have ZeS := ift ZnA ZeS
    (conv => whnf)
    obtain rfl := Zh ZeS
    refine st ?_
    exact wx (WS.mk (tc (tc (tc (Zd (Zq (web ZnA)) Zb)))) Zc)
   ·have ZeS := ife ZnA ZeS
    obtain ⟨x52, ZG5, ZeS⟩ := bind_some ZeS
    obtain ⟨r53, Zyk, ZeS⟩ := bind_some ZeS
    (conv => whnf)
    refine dp ?_
    refine dp ?_
    refine dr (ZX (Ze.cells_eq x44) ZD6) ?_
    refine dp ?_
    refine dp ?_
    refine dp ?_
    refine dp ?_
    refine dr (ZX (Ze.cells_eq x52) ZG5) ?_
    refine dp ?_
    refine dp ?_
    refine st ?_
    refine e3 ?_
    refine st ?_
    refine cm (Zk.weak (rn []) (Zf7 x44.fType x52.fType _ Zyk) rfl (WS.mk (Zd (Zp (lc (lc (lc (lc Zn))))) (Zd (Zp (lc (lc (lc (lc Zn))))) Zb)) Zc)) ?_
    refine st ?_
    obtain rfl := Zh ZeS
    refine st ?_
    exact wx (WS.mk (tc (tc (tc (Zd (Zq (web ZnA)) Zb)))) Zc)
  obtain ⟨r0, hw⟩ := hw
  (conv => whnf)
  refine AWP.weak r0 hw ?_
  refine nw ?_
  refine Zi hF (fun ZiJ hF => ?_) (fun ZiJ hF => ?_)
  ·refine AWP.seq ?_
   refine ns ?_
   obtain rfl := Zh hF
   refine ns ?_
   refine Exists.intro [] ?_
   refine st ?_
   exact wx (WS.mk (tc Zb) Zc)
  ·refine nw ?_
   refine ns ?_
   refine AWL.weak (rn []) ?_ (ZlC a b (i_5 + 1) ZCf _ hF (Zda ++ [x44]) (by rw [Zhc]; simp) (by rw [Zhn]; simp) hlen43 hlen5)
   exact (WS.mk (tc (tc (Zd (Zq (Zc0 (ZP hlen43 ZFt))) Zb))) Zc)
 ·subst ZC6
  refine nw ?_
  refine AWP.seq ?_
  refine ns ?_
  obtain rfl := Zh hF
  refine ns ?_
  refine Exists.intro [] ?_
  refine st ?_
  exact wx (WS.mk (tc Zb) Zc)

def Zcg (a : (List Ze)) (b : (List Ze)) : Option (Bool) :=
 if (((a.length : Nat) : Int) != ((b.length : Nat) : Int)) = true then
 some false
 else
 Zbi a b 0 a
def Zcg.M (a : (List Ze)) (b : (List Ze)) (r : Bool) : Prop :=
 Zk Tryz.prog 14 [.c none (.sl (a.map Ze.cells)), .c none (.sl (b.map Ze.cells))] [] (fun d b => d = .c none (.v (.bool r)) ∧ b = [])
theorem ZnN (a : (List Ze)) (b : (List Ze)) (r : Bool) (hF : Zcg a b = some r) : Zcg.M a b r := by
 unfold Zcg at hF
 unfold Zcg.M
 refine en Tryz.func14 ?_
 refine AWP.seq ?_
 refine ns ?_
 refine AWP.seq ?_
 refine AWP.seq ?_
 refine ns ?_
 intro hlen4
 (try rw [List.length_map] at hlen4)
 (try rw [List.length_map])
 refine st ?_
 intro hlen5
 (try rw [List.length_map] at hlen5)
 (try rw [List.length_map])
 refine st ?_
 refine nw ?_
 refine Zi hF (fun hc6 hF => ?_) (fun hc6 hF => ?_)
 ·refine AWP.seq ?_
  refine ns ?_
  obtain rfl := Zh hF
  refine ns ?_
  refine Exists.intro [] ?_
  refine st ?_
  exact wx (WS.mk (tc Zb) Zc)
 ·refine nw ?_
  refine AWP.seq ?_
  refine AWP.seq ?_
  refine ns ?_
  refine AWP.block ?_
  refine AWP.loop ?_
  refine AWL.weak (rn []) ?_ (Zlz a b 0 a _ hF ([]) rfl rfl hlen4 hlen5)
  exact (WS.mk (tc (tc (tc Zb))) Zc)

def Zc1 (s : ByteArray) : Option (Za) :=
 some (Za.mk 2 s (Zj.mk ([] : List Zj)) ([] : List Za))
def Zc1.M (s : ByteArray) (r : Za) : Prop :=
 Zk Tryz.prog 30 [.c none (.v (.string s))] [] (fun d b => d = .agg [.v (.int .i64 r.fOp), .v (.string r.fName), .sl (r.fBound.fArgs.map Zj.cells), .sl (r.fKids.map Za.cells)] ∧ b = [])
theorem Zfu (s : ByteArray) (r : Za) (hF : Zc1 s = some r) : Zc1.M s r := by
 unfold Zc1 at hF
 unfold Zc1.M
 refine en Tryz.func30 ?_
 refine AWP.seq ?_
 refine ns ?_
 refine AWP.seq ?_
 refine ns ?_
 obtain rfl := Zh hF
 refine ns ?_
 refine Exists.intro [] ?_
 refine st ?_
 exact wx (WS.mk (Zd (Zp (lc (lc (ZaE WE.nil (ZaE WE.nil Zn))))) Zb) Zc)

def Zb5 : Option (Bool) :=
 Zc1 (ByteArray.mk #[73, 110, 116]) >>= fun r3 =>
 Zcq (Za.mk 1 (ByteArray.mk #[97]) (Zj.mk ([] : List Zj)) ([] : List Za)) r3 >>= fun r4 =>
 Zc1 (ByteArray.mk #[91, 93]) >>= fun r7 =>
 Zcq (Za.mk 1 (ByteArray.mk #[97]) (Zj.mk ([] : List Zj)) ([] : List Za)) (Za.mk 3 (ByteArray.mk #[]) (Zj.mk ([] : List Zj)) ([r7, (Za.mk 1 (ByteArray.mk #[97]) (Zj.mk ([] : List Zj)) ([] : List Za))])) >>= fun r8 =>
 Zc1 (ByteArray.mk #[73, 110, 116]) >>= fun r9 =>
 Zc1 (ByteArray.mk #[66, 111, 111, 108]) >>= fun r10 =>
 Zcq r9 r10 >>= fun r11 =>
 (if ((r4.2 == 0) && (((r4.1.length : Nat) : Int) == 1)) = true then (ixI r4.1 0) >>= fun x13 =>
 some (x13.fName.toList == (ByteArray.mk #[97]).toList) else some false) >>= fun c14 =>
 (if c14 = true then (ixI r4.1 0) >>= fun x15 =>
 some (x15.fType.fName.toList == (ByteArray.mk #[73, 110, 116]).toList) else some false) >>= fun c16 =>
 some ((c16 && (r8.2 == 23)) && (r11.2 == 22))
def Zb5.M (r : Bool) : Prop :=
 Zk Tryz.prog 11 [] [] (fun d b => d = .c none (.v (.bool r)) ∧ b = [])
theorem Zfl (r : Bool) (hF : Zb5 = some r) : Zb5.M r := by
 unfold Zb5 at hF
 unfold Zb5.M
 refine en Tryz.func11 ?_
 refine AWP.seq ?_
 refine ns ?_
 refine AWP.seq ?_
 refine ns ?_
 refine AWP.seq ?_
 obtain ⟨r3, hr3, hF⟩ := bind_some hF
 obtain ⟨r4, hr4, hF⟩ := bind_some hF
 refine nn ?_
 refine Or.inl (Or.inl (Exists.intro 7 (Exists.intro [[], [], [], [], [], [], []] (Exists.intro [([10, 11, 12, 9, 13, 14, 2], [], []), ([10, 11, 12, 9, 13, 14, 2], [], []), ([12, 9, 13, 14, 2], [], []), ([9, 13, 14, 2], [], []), ([13, 14, 2], [], []), ([13, 14, 2], [], []), ([14, 2], [], [])] (Exists.intro [10, 11, 12, 9, 13, 14, 2] (And.intro (by decide +kernel) ?_))))))
 refine dp ?_
 (refine st ?_; apply Exists.intro; apply Exists.intro; apply And.intro; (focus ((conv => whnf); refine Exists.intro [] ?_; (conv => whnf); refine And.intro rfl ?_; (conv => whnf); refine Zk.mono (Zk.weak (rn []) (Zfu (ByteArray.mk #[73, 110, 116]) _ hr3) rfl (WS.mk (tc Zb) Zc)) ?_; rintro d b ⟨rfl, rfl⟩; exact And.intro rfl (And.intro rfl rfl))); apply And.intro; (focus exact rfl); (conv => whnf))
 (refine st ?_; apply Exists.intro; apply Exists.intro; apply And.intro; (focus ((conv => whnf); refine Exists.intro [] ?_; (conv => whnf); refine And.intro rfl ?_; (conv => whnf); refine Zk.mono (Zk.weak (rn []) (Zi4 (Za.mk 1 (ByteArray.mk #[97]) (Zj.mk ([] : List Zj)) ([] : List Za)) r3 _ hr4) rfl (WS.mk (Zd (Zp (lc (lc (ZaE WE.nil (ZaE WE.nil Zn))))) (Zd (Zp (lc (lc (lc (lc Zn))))) Zb)) Zc)) ?_; rintro d b ⟨rfl, rfl⟩; exact And.intro rfl (And.intro rfl rfl))); apply And.intro; (focus exact rfl); (conv => whnf))
 refine dp ?_
 refine dp ?_
 refine dp ?_
 refine dp ?_
 refine st ?_
 refine AWP.seq ?_
 obtain ⟨r7, hr7, hF⟩ := bind_some hF
 obtain ⟨r8, hr8, hF⟩ := bind_some hF
 refine nn ?_
 refine Or.inl (Or.inl (Exists.intro 10 (Exists.intro [[], [], [], [], [], [], [], [], [], []] (Exists.intro [([16, 17, 18, 19, 20, 21, 15, 22, 23, 4], [], []), ([16, 17, 18, 19, 20, 21, 15, 22, 23, 4], [], []), ([16, 17, 18, 19, 20, 21, 15, 22, 23, 4], [], []), ([16, 19, 20, 21, 15, 22, 23, 4], [], []), ([16, 20, 21, 15, 22, 23, 4], [], []), ([21, 15, 22, 23, 4], [], []), ([15, 22, 23, 4], [], []), ([22, 23, 4], [], []), ([22, 23, 4], [], []), ([23, 4], [], [])] (Exists.intro [16, 17, 18, 19, 20, 21, 15, 22, 23, 4] (And.intro (by decide +kernel) ?_))))))
 refine dp ?_
 (refine st ?_; apply Exists.intro; apply Exists.intro; apply And.intro; (focus ((conv => whnf); refine Exists.intro [] ?_; (conv => whnf); refine And.intro rfl ?_; (conv => whnf); refine Zk.mono (Zk.weak (rn []) (Zfu (ByteArray.mk #[91, 93]) _ hr7) rfl (WS.mk (tc Zb) Zc)) ?_; rintro d b ⟨rfl, rfl⟩; exact And.intro rfl (And.intro rfl rfl))); apply And.intro; (focus exact rfl); (conv => whnf))
 refine dp ?_
 refine de (Zcb (f := Za.cells) (ZdW (Za.cells_eq r7) (lc (lc (lc (lc Zn))))) (Zcb (f := Za.cells) (ZdW (Za.cells_eq (Za.mk 1 (ByteArray.mk #[97]) (Zj.mk ([] : List Zj)) ([] : List Za))) (lc (lc (ZaE WE.nil (ZaE WE.nil Zn))))) (Zap (f := Za.cells)))) ?_
 refine dp ?_
 (refine st ?_; apply Exists.intro; apply Exists.intro; apply And.intro; (focus ((conv => whnf); refine Exists.intro [] ?_; (conv => whnf); refine And.intro rfl ?_; (conv => whnf); refine Zk.mono (Zk.weak (rn []) (Zi4 (Za.mk 1 (ByteArray.mk #[97]) (Zj.mk ([] : List Zj)) ([] : List Za)) (Za.mk 3 (ByteArray.mk #[]) (Zj.mk ([] : List Zj)) ([r7, (Za.mk 1 (ByteArray.mk #[97]) (Zj.mk ([] : List Zj)) ([] : List Za))])) _ hr8) rfl (WS.mk (Zd (Zp (lc (lc (ZaE WE.nil (ZaE WE.nil Zn))))) (Zd (Zp (lc (lc (ZaE WE.nil (lc Zn))))) Zb)) Zc)) ?_; rintro d b ⟨rfl, rfl⟩; exact And.intro rfl (And.intro rfl rfl))); apply And.intro; (focus exact rfl); (conv => whnf))
 refine dp ?_
 refine dp ?_
 refine dp ?_
 refine dp ?_
 refine st ?_
 refine AWP.seq ?_
 obtain ⟨r9, hr9, hF⟩ := bind_some hF
 obtain ⟨r10, Zqu, hF⟩ := bind_some hF
 obtain ⟨r11, Zvf, hF⟩ := bind_some hF
 refine ns ?_
 refine e3 ?_
 refine st ?_
 refine cm (Zk.weak (rn []) (Zfu (ByteArray.mk #[73, 110, 116]) _ hr9) rfl (WS.mk (tc Zb) Zc)) ?_
 refine st ?_
 refine e3 ?_
 refine st ?_
 refine cm (Zk.weak (rn []) (Zfu (ByteArray.mk #[66, 111, 111, 108]) _ Zqu) rfl (WS.mk (tc Zb) Zc)) ?_
 refine st ?_
 refine e3 ?_
 refine st ?_
 refine cm (Zk.weak (rn []) (Zi4 r9 r10 _ Zvf) rfl (WS.mk (Zd (Zp (lc (lc (lc (lc Zn))))) (Zd (Zp (lc (lc (lc (lc Zn))))) Zb)) Zc)) ?_
 refine st ?_
 refine AWP.seq ?_
 obtain ⟨c14, Zc8, hF⟩ := bind_some hF
 obtain ⟨c16, ZeJ, hF⟩ := bind_some hF
 refine AWP.cutN (fun T => ∃ r, WS r T ⟨[(0, .c none (.v (.bool ((c16 && (r8.2 == 23)) && (r11.2 == 22)))))], []⟩) ?_ (fun T hw => ?_)
 ·refine ns ?_
  refine Zl true (fun Zfg => ?_) (fun Zfg => ?_)
  ·(conv => whnf)
   refine st ?_
   intro hlen12
   (try rw [List.length_map] at hlen12)
   (try rw [List.length_map])
   refine st ?_
   refine Zl true (fun ZgZ => ?_) (fun ZgZ => ?_)
   ·have Zc8 := ift (And.intro Zfg ZgZ) Zc8
    obtain ⟨x13, hx130, Zq2, Zc8⟩ := Zd6 Zc8
    (conv => whnf)
    refine sr (Zdi (f := Ze.cells) (Ze.cells_eq x13) Zq2) ?_
    obtain rfl := Zh Zc8
    refine st ?_
    refine Zl true (fun ZkO => ?_) (fun ZkO => ?_)
    ·have ZeJ := ift (And.intro Zfg (And.intro ZgZ ZkO)) ZeJ
     obtain ⟨x15, ZBa, Zyl, ZeJ⟩ := Zd6 ZeJ
     (conv => whnf)
     refine sr (Zdi (f := Ze.cells) (Ze.cells_eq x15) Zyl) ?_
     obtain rfl := Zh ZeJ
     refine st ?_
     refine Zl true (fun ZtY => ?_) (fun ZtY => ?_)
     ·(conv => whnf)
      refine st ?_
      refine Zl true (fun Zkb => ?_) (fun Zkb => ?_)
      ·(conv => whnf)
       refine st ?_
       exact wx (WS.mk (Zd (Zq (web (And.intro Zfg (And.intro ZgZ (And.intro ZkO (And.intro ZtY Zkb)))))) Zb) Zc)
      ·(conv => whnf)
       refine st ?_
       exact wx (WS.mk (Zd (Zq (web (And.intro Zfg (And.intro ZgZ (And.intro ZkO (And.intro ZtY Zkb)))))) Zb) Zc)
     ·(conv => whnf)
      refine st ?_
      exact wx (WS.mk (Zd (Zq (web (And.intro Zfg (And.intro ZgZ (And.intro ZkO ZtY))))) Zb) Zc)
    ·have ZeJ := ife (And.intro Zfg (And.intro ZgZ ZkO)) ZeJ
     (conv => whnf)
     obtain rfl := Zh ZeJ
     refine st ?_
     exact wx (WS.mk (Zd (Zq (web (And.intro Zfg (And.intro ZgZ ZkO)))) Zb) Zc)
   ·have Zc8 := ife (And.intro Zfg ZgZ) Zc8
    (conv => whnf)
    obtain rfl := Zh Zc8
    have ZeJ := ife (And.intro Zfg ZgZ) ZeJ
    obtain rfl := Zh ZeJ
    refine st ?_
    exact wx (WS.mk (Zd (Zq (web (And.intro Zfg ZgZ))) Zb) Zc)
  ·(conv => whnf)
   have Zc8 := ife Zfg Zc8
   obtain rfl := Zh Zc8
   have ZeJ := ife Zfg ZeJ
   obtain rfl := Zh ZeJ
   refine st ?_
   exact wx (WS.mk (Zd (Zq (web Zfg)) Zb) Zc)
 obtain ⟨r0, hw⟩ := hw
 (conv => whnf)
 refine AWP.weak r0 hw ?_
 obtain rfl := Zh hF
 refine ns ?_
 refine Exists.intro [] ?_
 refine st ?_
 exact wx (WS.mk (tc Zb) Zc)

def Za1 (l : (List Za)) (n_3 : Int) (i_4 : Nat) (Zbv : (List Za)) : Option (Bool) :=
 (match Zbv with
 | x22 :: Zvh =>
 Zay x22 >>= fun r25 =>
 Zax x22 >>= fun r26 =>
 if (decide (r26 > 110)) = true then
 some false
 else
 Za1 l (IntKind.i64.wrap (n_3 + r25)) (i_4 + 1) Zvh
 | [] =>
 some (decide (n_3 ≤ 400)))
 partial_fixpoint
def Za1.M (l : (List Za)) (n_3 : Int) (i_4 : Nat) (Zbv : (List Za)) (r : Bool) : Prop :=
 ∀ Zdd : List Za, l = Zdd ++ Zbv → i_4 = Zdd.length → AWL Tryz.prog 26 (Code.sub (Zr Tryz.f10) [1, 1, 0, 1, 0, 0]) (Code.cont Tryz.prog 26 (Zr Tryz.f10) [1, 1, 0, 1, 0] (ZbV tab Tryz.f10.results (Zb0 (.c none (.v (.bool r))) []))) ⟨[(0, .c none (.sl (l.map Za.cells))), (3, .c none (.v (.int .i64 n_3))), (4, .c none (.v (.int .i64 ((i_4 : Nat) : Int))))], []⟩
theorem ZkU (l : (List Za)) (n_3 : Int) (i_4 : Nat) (Zbv : (List Za)) : ∀ r, Za1 l n_3 i_4 Zbv = some r → Za1.M l n_3 i_4 Zbv r := by
 refine Za1.partial_correctness l (fun n_3 i_4 Zbv r => Za1.M l n_3 i_4 Zbv r) ?_ n_3 i_4 Zbv
 intro lazyclaw18_small_l1' ZgP n_3 i_4 Zbv r hF
 have Zla := fun (_l : (List Za)) (n_3 : Int) (i_4 : Nat) (Zbv : (List Za)) => ZgP n_3 i_4 Zbv
 clear ZgP
 unfold Za1.M
 intro Zdd Zhr Zhq
 refine AWL.step ?_
 refine AWP.seq ?_
 refine AWP.seq ?_
 refine ns ?_
 intro hlen21
 (try rw [List.length_map] at hlen21)
 (try rw [List.length_map])
 refine st ?_
 refine nw ?_
 refine ZF Zhr Zhq (fun x22 Zvh ZvO ZxA ZDr => ?_) (fun ZvO => ?_)
 ·subst ZvO
  refine nw ?_
  refine AWP.seq ?_
  refine AWP.block ?_
  refine AWP.seq ?_
  obtain ⟨r25, Zyh, hF⟩ := bind_some hF
  refine nn ?_
  refine sr (ZX (f := Za.cells) (Za.cells_eq x22) ZxA) ?_
  refine st ?_
  refine e3 ?_
  refine st ?_
  refine cm (Zk.weak (rn []) (ZgF x22 _ Zyh) rfl (WS.mk (Zd (Zp (lc (lc (lc (lc Zn))))) Zb) Zc)) ?_
  refine st ?_
  refine AWP.seq ?_
  obtain ⟨r26, ZGH, hF⟩ := bind_some hF
  refine nn ?_
  refine sr (ZX (f := Za.cells) (Za.cells_eq x22) ZxA) ?_
  refine st ?_
  refine e3 ?_
  refine st ?_
  refine cm (Zk.weak (rn []) (Zf6 x22 _ ZGH) rfl (WS.mk (Zd (Zp (lc (lc (lc (lc Zn))))) Zb) Zc)) ?_
  refine st ?_
  refine nw ?_
  refine Zi hF (fun Zky hF => ?_) (fun Zky hF => ?_)
  ·refine AWP.seq ?_
   refine ns ?_
   obtain rfl := Zh hF
   refine ns ?_
   refine Exists.intro [] ?_
   refine st ?_
   exact wx (WS.mk (tc Zb) Zc)
  ·refine nw ?_
   refine ns ?_
   refine AWL.weak (rn []) ?_ (Zla l (IntKind.i64.wrap (n_3 + r25)) (i_4 + 1) Zvh _ hF (Zdd ++ [x22]) (by rw [Zhr]; simp) (by rw [Zhq]; simp))
   exact (WS.mk (tc (tc (Zd (Zq (Zc0 (ZP hlen21 ZDr))) Zb))) Zc)
 ·subst ZvO
  refine nw ?_
  refine AWP.seq ?_
  refine ns ?_
  obtain rfl := Zh hF
  refine ns ?_
  refine Exists.intro [] ?_
  refine st ?_
  exact wx (WS.mk (tc Zb) Zc)

def Zc9 (l : (List Za)) : Option (Bool) :=
 Za1 l 0 0 l
def Zc9.M (l : (List Za)) (r : Bool) : Prop :=
 Zk Tryz.prog 10 [.c none (.sl (l.map Za.cells))] [] (fun d b => d = .c none (.v (.bool r)) ∧ b = [])
theorem Zm4 (l : (List Za)) (r : Bool) (hF : Zc9 l = some r) : Zc9.M l r := by
 unfold Zc9 at hF
 unfold Zc9.M
 refine en Tryz.func10 ?_
 refine AWP.seq ?_
 refine ns ?_
 refine AWP.seq ?_
 refine ns ?_
 refine AWP.seq ?_
 refine AWP.seq ?_
 refine ns ?_
 refine AWP.block ?_
 refine AWP.loop ?_
 refine AWL.weak (rn []) ?_ (ZkU l 0 0 l _ hF ([]) rfl rfl)
 exact (WS.mk (tc (tc (tc Zb))) Zc)

mutual
def Zc2 (a : Zj) (b : Zj) : Option (Bool) :=
 Zaw a.fArgs b.fArgs >>= fun r1 =>
 some r1
 partial_fixpoint
def Zaw (s1_ : (List Zj)) (s2_ : (List Zj)) : Option (Bool) :=
 if (((s1_.length : Nat) : Int) != ((s2_.length : Nat) : Int)) = true then
 some false
 else
 Z3 s2_ s1_ 0 s1_
 partial_fixpoint
def Z3 (s2_ : (List Zj)) (s1_ : (List Zj)) (Zr8 : Nat) (Zlf : (List Zj)) : Option (Bool) :=
 (match Zlf with
 | x21 :: ZCO =>
 (s2_[Zr8]?) >>= fun x24 =>
 Zc2 x21 x24 >>= fun r25 =>
 if (!r25) = true then
 some false
 else
 Z3 s2_ s1_ (Zr8 + 1) ZCO
 | [] =>
 some true)
 partial_fixpoint
end
def Zc2.M (a : Zj) (b : Zj) (r : Bool) : Prop :=
 Zk Tryz.prog 125 [.agg [.sl (a.fArgs.map Zj.cells)], .agg [.sl (b.fArgs.map Zj.cells)]] [] (fun d b => d = .c none (.v (.bool r)) ∧ b = [])
def Zaw.M (s1_ : (List Zj)) (s2_ : (List Zj)) (r : Bool) : Prop :=
 Zk Tryz.prog 139 [.c none (.sl (s1_.map Zj.cells)), .c none (.sl (s2_.map Zj.cells)), .c none (.v (.func (.func 125) #[] #[]))] [] (fun d b => d = .c none (.v (.bool r)) ∧ b = [])
def Z3.M (s2_ : (List Zj)) (s1_ : (List Zj)) (Zr8 : Nat) (Zlf : (List Zj)) (r : Bool) : Prop :=
 ∀ Zom : List Zj, s1_ = Zom ++ Zlf → Zr8 = Zom.length → s1_.length ≤ maxLen → s2_.length ≤ maxLen → AWL Tryz.prog 32 (Code.sub (Zr Tryz.f139) [1, 1, 0, 1, 0, 0]) (Code.cont Tryz.prog 32 (Zr Tryz.f139) [1, 1, 0, 1, 0] (ZbV tab Tryz.f139.results (Zb0 (.c none (.v (.bool r))) []))) ⟨[(1, .c none (.sl (s2_.map Zj.cells))), (2, .c none (.v (.func (.func 125) #[] #[]))), (15, .c none (.sl (s1_.map Zj.cells))), (16, .c none (.v (.int .i64 ((s1_.length : Nat) : Int)))), (17, .c none (.v (.int .i64 ((Zr8 : Nat) : Int))))], []⟩
theorem ZnB : (∀ (a : Zj) (b : Zj), ∀ r, Zc2 a b = some r → Zc2.M a b r) ∧ (∀ (s1_ : (List Zj)) (s2_ : (List Zj)), ∀ r, Zaw s1_ s2_ = some r → Zaw.M s1_ s2_ r) ∧ (∀ (s2_ : (List Zj)) (s1_ : (List Zj)) (Zr8 : Nat) (Zlf : (List Zj)), ∀ r, Z3 s2_ s1_ Zr8 Zlf = some r → Z3.M s2_ s1_ Zr8 Zlf r) := by
 refine Zc2.mutual_partial_correctness Zc2.M Zaw.M Z3.M ?_ ?_ ?_
 ·intro slices_EqualFunc_Kind_types_SameKind' Zfx a b r hF
  unfold Zc2.M
  refine en Tryz.func125 ?_
  refine AWP.seq ?_
  refine ns ?_
  refine AWP.seq ?_
  obtain ⟨r1, hr1, hF⟩ := bind_some hF
  refine ns ?_
  refine e3 ?_
  refine st ?_
  refine cm (Zk.weak (rn []) (Zfx a.fArgs b.fArgs _ hr1) rfl (WS.mk (tc (tc (tc Zb))) Zc)) ?_
  refine st ?_
  obtain rfl := Zh hF
  refine ns ?_
  refine Exists.intro [] ?_
  refine st ?_
  exact wx (WS.mk (tc Zb) Zc)
 ·intro slices_EqualFunc_Kind_types_SameKind_l1' Zcc s1_ s2_ r hF
  unfold Zaw.M
  refine en Tryz.func139 ?_
  refine AWP.seq ?_
  refine ns ?_
  refine AWP.seq ?_
  refine AWP.seq ?_
  refine ns ?_
  intro hlen4
  (try rw [List.length_map] at hlen4)
  (try rw [List.length_map])
  refine st ?_
  intro hlen5
  (try rw [List.length_map] at hlen5)
  (try rw [List.length_map])
  refine st ?_
  refine nw ?_
  refine Zi hF (fun hc6 hF => ?_) (fun hc6 hF => ?_)
  ·refine AWP.seq ?_
   refine ns ?_
   obtain rfl := Zh hF
   refine ns ?_
   refine Exists.intro [] ?_
   refine st ?_
   exact wx (WS.mk (tc Zb) Zc)
  ·refine nw ?_
   refine AWP.seq ?_
   refine AWP.seq ?_
   refine ns ?_
   intro hlen7
   (try rw [List.length_map] at hlen7)
   (try rw [List.length_map])
   refine st ?_
   refine AWP.block ?_
   refine AWP.loop ?_
   refine AWL.weak (rn []) ?_ (Zcc s2_ s1_ 0 s1_ _ hF ([]) rfl rfl hlen7 hlen5)
   exact (WS.mk (tc (tc (tc (tc (tc Zb))))) Zc)
 ·intro types_SameKind' slices_EqualFunc_Kind_types_SameKind_l1' Zok Zcc s2_ s1_ Zr8 Zlf r hF
  unfold Z3.M
  intro Zom ZwM ZwK hlen7 hlen5
  refine AWL.step ?_
  refine AWP.seq ?_
  refine ns ?_
  refine AWP.seq ?_
  refine nw ?_
  refine ZF ZwM ZwK (fun x21 ZCO ZBL ZHb ZGm => ?_) (fun ZBL => ?_)
  ·subst ZBL
   refine nw ?_
   refine AWP.seq ?_
   refine AWP.block ?_
   refine AWP.seq ?_
   refine nn ?_
   refine sr (ZX (f := Zj.cells) (Zj.cells_eq x21) ZHb) ?_
   refine st ?_
   refine AWP.seq ?_
   obtain ⟨x24, ZxA, hF⟩ := bind_some hF
   refine nn ?_
   refine sr (ZX (f := Zj.cells) (Zj.cells_eq x24) ZxA) ?_
   refine st ?_
   refine AWP.seq ?_
   obtain ⟨r25, Zyh, hF⟩ := bind_some hF
   refine ns ?_
   refine e3 ?_
   refine st ?_
   refine cm (Zk.weak (rn []) (Zok x21 x24 _ Zyh) rfl (WS.mk (Zd (Zp (lc Zn)) (Zd (Zp (lc Zn)) Zb)) Zc)) ?_
   refine st ?_
   refine nw ?_
   refine Zi hF (fun ZfB hF => ?_) (fun ZfB hF => ?_)
   ·refine AWP.seq ?_
    refine ns ?_
    obtain rfl := Zh hF
    refine ns ?_
    refine Exists.intro [] ?_
    refine st ?_
    exact wx (WS.mk (tc Zb) Zc)
   ·refine nw ?_
    refine ns ?_
    refine AWL.weak (rn []) ?_ (Zcc s2_ s1_ (Zr8 + 1) ZCO _ hF (Zom ++ [x21]) (by rw [ZwM]; simp) (by rw [ZwK]; simp) hlen7 hlen5)
    exact (WS.mk (tc (tc (tc (tc (Zd (Zq (Zc0 (ZP hlen7 ZGm))) Zb))))) Zc)
  ·subst ZBL
   refine nw ?_
   refine AWP.seq ?_
   refine ns ?_
   obtain rfl := Zh hF
   refine ns ?_
   refine Exists.intro [] ?_
   refine st ?_
   exact wx (WS.mk (tc Zb) Zc)
theorem ZoF : ∀ (a : Zj) (b : Zj), ∀ r, Zc2 a b = some r → Zc2.M a b r := ZnB.1

mutual
def Zbc (a : Za) (b : Za) : Option (Bool) :=
 if ((a.fOp != b.fOp) || (((a.fKids.length : Nat) : Int) != ((b.fKids.length : Nat) : Int))) = true then
 some false
 else
 if (a.fOp == 1) = true then
 some (a.fName.toList == b.fName.toList)
 else
 if (a.fOp == 2) = true then
 some (a.fName.toList == b.fName.toList)
 else
 if (a.fOp == 4) = true then
 Zc2 a.fBound b.fBound >>= fun r20 =>
 if (!r20) = true then
 some false
 else
 none
 else
 ZbS a 0 b a.fKids
 partial_fixpoint
def ZbS (a : Za) (ZrW : Nat) (b : Za) (Zk9 : (List Za)) : Option (Bool) :=
 (match Zk9 with
 | x70 :: ZC3 =>
 (b.fKids[ZrW]?) >>= fun x75 =>
 Zbc x70 x75 >>= fun r76 =>
 if (!r76) = true then
 some false
 else
 ZbS a (ZrW + 1) b ZC3
 | [] =>
 some true)
 partial_fixpoint
end
def Zbc.M (a : Za) (b : Za) (r : Bool) : Prop :=
 Zk Tryz.prog 100 [.c none (.nils), .agg [.v (.int .i64 a.fOp), .v (.string a.fName), .sl (a.fBound.fArgs.map Zj.cells), .sl (a.fKids.map Za.cells)], .agg [.v (.int .i64 b.fOp), .v (.string b.fName), .sl (b.fBound.fArgs.map Zj.cells), .sl (b.fKids.map Za.cells)]] [] (fun d b => d = .c none (.v (.bool r)) ∧ b = [])
def ZbS.M (a : Za) (ZrW : Nat) (b : Za) (Zk9 : (List Za)) (r : Bool) : Prop :=
 ∀ ZoA : List Za, a.fKids = ZoA ++ Zk9 → ZrW = ZoA.length → a.fKids.length ≤ maxLen → AWL Tryz.prog 105 (Code.sub (Zr Tryz.f100) [1, 1, 1, 0, 1, 0, 0]) (Code.cont Tryz.prog 105 (Zr Tryz.f100) [1, 1, 1, 0, 1, 0] (ZbV tab Tryz.f100.results (Zb0 (.c none (.v (.bool r))) []))) ⟨[(0, .c none (.nils)), (4, .ptr 4 0), (5, .ptr 5 0), (6, .ptr 6 0), (87, .c none (.v (.int .i64 ((a.fKids.length : Nat) : Int)))), (88, .c none (.v (.int .i64 ((ZrW : Nat) : Int))))], [(4, [(none, .v (.int .i64 a.fOp)), (none, .v (.string a.fName)), (none, .sl (a.fBound.fArgs.map Zj.cells)), (none, .sl (a.fKids.map Za.cells))]), (5, [(none, .v (.int .i64 b.fOp)), (none, .v (.string b.fName)), (none, .sl (b.fBound.fArgs.map Zj.cells)), (none, .sl (b.fKids.map Za.cells))]), (6, [(none, .v (.bool false))])]⟩
theorem ZpX : (∀ (a : Za) (b : Za), ∀ r, Zbc a b = some r → Zbc.M a b r) ∧ (∀ (a : Za) (ZrW : Nat) (b : Za) (Zk9 : (List Za)), ∀ r, ZbS a ZrW b Zk9 = some r → ZbS.M a ZrW b Zk9 r) := by
 refine Zbc.mutual_partial_correctness Zbc.M ZbS.M ?_ ?_
 ·intro types_equal_l1' Zhm a b r hF
  unfold Zbc.M
  refine en Tryz.func100 ?_
  refine AWP.seq ?_
  refine ns ?_
  refine AWP.seq ?_
  refine AWP.seq ?_
  refine AWP.cutN (fun T => ∃ r, WS r T ⟨[(0, .c none (.nils)), (4, .ptr 4 0), (5, .ptr 5 0), (6, .ptr 6 0), (23, .c none (.v (.bool ((a.fOp != b.fOp) || (((a.fKids.length : Nat) : Int) != ((b.fKids.length : Nat) : Int))))))], [(4, [(none, .v (.int .i64 a.fOp)), (none, .v (.string a.fName)), (none, .sl (a.fBound.fArgs.map Zj.cells)), (none, .sl (a.fKids.map Za.cells))]), (5, [(none, .v (.int .i64 b.fOp)), (none, .v (.string b.fName)), (none, .sl (b.fBound.fArgs.map Zj.cells)), (none, .sl (b.fKids.map Za.cells))]), (6, [(none, .v (.bool false))])]⟩) ?_ (fun T hw => ?_)
  ·refine ns ?_
   refine Zl false (fun hc6 => ?_) (fun hc6 => ?_)
   ·(conv => whnf)
    refine st ?_
    exact wx (WS.mk (tc (tp (tp (tp (Zd (Zq (web hc6)) Zb))))) (Zf rfl (cc (cc (cc (cc Zg)))) (Zf rfl (cc (cc (cc (cc Zg)))) (Zf rfl (cc Zg) Zc))))
   ·(conv => whnf)
    refine st ?_
    intro hlen4
    (try rw [List.length_map] at hlen4)
    (try rw [List.length_map])
    refine st ?_
    intro hlen5
    (try rw [List.length_map] at hlen5)
    (try rw [List.length_map])
    refine st ?_
    exact wx (WS.mk (tc (tp (tp (tp (Zd (Zq (web hc6)) Zb))))) (Zf rfl (cc (cc (cc (cc Zg)))) (Zf rfl (cc (cc (cc (cc Zg)))) (Zf rfl (cc Zg) Zc))))
  obtain ⟨r0, hw⟩ := hw
  (conv => whnf)
  refine AWP.weak r0 hw ?_
  refine nw ?_
  refine Zi hF (fun hc7 hF => ?_) (fun hc7 hF => ?_)
  ·refine AWP.seq ?_
   refine ns ?_
   obtain rfl := Zh hF
   refine ns ?_
   refine Exists.intro [] ?_
   refine st ?_
   exact wx (WS.mk (tc Zb) Zc)
  ·refine nw ?_
   refine AWP.seq ?_
   refine AWP.seq ?_
   refine ns ?_
   refine AWP.block ?_
   refine AWP.seq ?_
   refine ns ?_
   refine nw ?_
   refine Zi hF (fun Zff hF => ?_) (fun Zff hF => ?_)
   ·refine AWP.seq ?_
    refine AWP.seq ?_
    refine ns ?_
    refine Exists.intro [] (Exists.intro [] (Exists.intro [(2000, 29)] ?_))
    refine st ?_
    refine cm ZvK ?_
    refine st ?_
    refine AWP.block ?_
    refine nn ?_
    intro l0
    refine Exists.intro [] (Exists.intro [(29, 1000)] (Exists.intro [] ?_))
    refine st ?_
    refine cm (Zvz _) ?_
    refine st ?_
    refine AWP.seq ?_
    refine ns ?_
    obtain rfl := Zh hF
    refine ns ?_
    refine Exists.intro [] ?_
    refine st ?_
    exact wx (WS.mk (tc Zb) Zc)
   ·refine AWP.seq ?_
    refine ns ?_
    refine nw ?_
    refine Zi hF (fun ZeJ hF => ?_) (fun ZeJ hF => ?_)
    ·refine AWP.seq ?_
     refine ns ?_
     obtain rfl := Zh hF
     refine ns ?_
     refine Exists.intro [] ?_
     refine st ?_
     exact wx (WS.mk (tc Zb) Zc)
    ·refine AWP.seq ?_
     refine ns ?_
     refine nw ?_
     refine Zi hF (fun Zfg hF => ?_) (fun Zfg hF => ?_)
     ·refine AWP.seq ?_
      refine AWP.seq ?_
      obtain ⟨r20, Zzt, hF⟩ := bind_some hF
      refine ns ?_
      refine e3 ?_
      refine st ?_
      refine cm (Zk.weak (rn []) (ZoF a.fBound b.fBound _ Zzt) rfl (WS.mk (Zd (Zp (lc Zn)) (Zd (Zp (lc Zn)) Zb)) Zc)) ?_
      refine st ?_
      refine nw ?_
      refine Zi hF (fun Zkb hF => ?_) (fun Zkb hF => ?_)
      ·refine AWP.seq ?_
       refine ns ?_
       obtain rfl := Zh hF
       refine ns ?_
       refine Exists.intro [] ?_
       refine st ?_
       exact wx (WS.mk (tc Zb) Zc)
      ·refine nw ?_
       cases hF
     ·refine nw ?_
      refine AWP.seq ?_
      refine AWP.seq ?_
      refine ns ?_
      intro hlen50
      (try rw [List.length_map] at hlen50)
      (try rw [List.length_map])
      refine st ?_
      refine AWP.block ?_
      refine AWP.loop ?_
      refine AWL.weak (rn []) ?_ (Zhm a 0 b a.fKids _ hF ([]) rfl rfl hlen50)
      exact (WS.mk (tc (tp (tp (tp (tc (tc Zb)))))) (Zf rfl (cc (cc (cc (cc Zg)))) (Zf rfl (cc (cc (cc (cc Zg)))) (Zf rfl (cc Zg) Zc))))
 ·intro types_equal' types_equal_l1' Zro Zhm a ZrW b Zk9 r hF
  unfold ZbS.M
  intro ZoA ZwE Zwx hlen50
  refine AWL.step ?_
  refine AWP.seq ?_
  refine ns ?_
  refine AWP.seq ?_
  refine nw ?_
  refine ZF ZwE Zwx (fun x70 ZC3 ZBY ZGV ZHe => ?_) (fun ZBY => ?_)
  ·subst ZBY
   refine nw ?_
   refine AWP.seq ?_
   refine AWP.block ?_
   refine AWP.seq ?_
   refine ns ?_
   refine AWP.seq ?_
   obtain ⟨x75, Zxo, hF⟩ := bind_some hF
   obtain ⟨r76, ZHo, hF⟩ := bind_some hF
   refine nn ?_
   refine Or.inl (Or.inl (Exists.intro 11 (Exists.intro [[], [], [], [], [], [], [], [], [], [], []] (Exists.intro [([91, 92, 93, 94, 95, 96, 97, 98, 99, 100, 101], [], []), ([91, 92, 93, 94, 95, 96, 97, 98, 99, 100, 101], [], []), ([91, 93, 94, 95, 96, 97, 98, 99, 100, 101], [], []), ([91, 92, 93, 94, 95, 96, 97, 98, 99, 100, 101], [], []), ([91, 95, 96, 97, 98, 99, 100, 101], [], []), ([91, 96, 97, 98, 99, 100, 101], [], []), ([91, 92, 93, 94, 95, 96, 97, 98, 99, 100, 101], [], []), ([91, 92, 93, 94, 95, 96, 98, 99, 100, 101], [], []), ([91, 92, 93, 94, 95, 96, 97, 98, 99, 100, 101], [], []), ([91, 92, 93, 94, 95, 96, 100, 101], [], []), ([91, 92, 93, 94, 95, 96, 101], [], [])] (Exists.intro [91, 92, 93, 94, 95, 96, 97, 98, 99, 100, 101] (And.intro (by decide +kernel) ?_))))))
   refine dp ?_
   refine dp ?_
   refine dp ?_
   refine dp ?_
   refine dr (ZX (Za.cells_eq x70) ZGV) ?_
   refine dp ?_
   refine dp ?_
   refine dp ?_
   refine dp ?_
   refine dr (ZX (Za.cells_eq x75) Zxo) ?_
   refine dp ?_
   refine st ?_
   refine e3 ?_
   refine st ?_
   refine cm (Zk.weak (rn []) (Zro x70 x75 _ ZHo) rfl (WS.mk (tc (Zd (Zp (lc (lc (lc (lc Zn))))) (Zd (Zp (lc (lc (lc (lc Zn))))) Zb))) Zc)) ?_
   refine st ?_
   refine nw ?_
   refine Zi hF (fun ZHs hF => ?_) (fun ZHs hF => ?_)
   ·refine AWP.seq ?_
    refine ns ?_
    obtain rfl := Zh hF
    refine ns ?_
    refine Exists.intro [] ?_
    refine st ?_
    exact wx (WS.mk (tc Zb) Zc)
   ·refine nw ?_
    refine ns ?_
    refine AWL.weak (rn []) ?_ (Zhm a (ZrW + 1) b ZC3 _ hF (ZoA ++ [x70]) (by rw [ZwE]; simp) (by rw [Zwx]; simp) hlen50)
    exact (WS.mk (tc (tp (tp (tp (tc (Zd (Zq (Zc0 (ZP hlen50 ZHe))) Zb)))))) (Zf rfl (cc (cc (cc (cc Zg)))) (Zf rfl (cc (cc (cc (cc Zg)))) (Zf rfl (cc Zg) Zc))))
  ·subst ZBY
   refine nw ?_
   refine AWP.seq ?_
   refine ns ?_
   obtain rfl := Zh hF
   refine ns ?_
   refine Exists.intro [] ?_
   refine st ?_
   exact wx (WS.mk (tc Zb) Zc)
theorem ZrT : ∀ (a : Za) (b : Za), ∀ r, Zbc a b = some r → Zbc.M a b r := ZpX.1

def ZeF (a : Za) (b : Za) : Option (Bool) :=
 Zbt a >>= fun r1 =>
 (if (r1 == 0) = true then Zbt b >>= fun r2 =>
 some (r2 == 0) else some false) >>= fun c3 =>
 (if c3 = true then Zbc a b >>= fun r4 =>
 some r4 else some false) >>= fun c5 =>
 some c5
def ZeF.M (a : Za) (b : Za) (r : Bool) : Prop :=
 Zk Tryz.prog 72 [.agg [.v (.int .i64 a.fOp), .v (.string a.fName), .sl (a.fBound.fArgs.map Zj.cells), .sl (a.fKids.map Za.cells)], .agg [.v (.int .i64 b.fOp), .v (.string b.fName), .sl (b.fBound.fArgs.map Zj.cells), .sl (b.fKids.map Za.cells)]] [] (fun d b => d = .c none (.v (.bool r)) ∧ b = [])
theorem ZqE (a : Za) (b : Za) (r : Bool) (hF : ZeF a b = some r) : ZeF.M a b r := by
 unfold ZeF at hF
 unfold ZeF.M
 refine en Tryz.func72 ?_
 refine AWP.seq ?_
 refine ns ?_
 refine AWP.seq ?_
 obtain ⟨r1, hr1, hF⟩ := bind_some hF
 obtain ⟨c3, hc3, hF⟩ := bind_some hF
 obtain ⟨c5, hc5, hF⟩ := bind_some hF
 refine AWP.cutN (fun T => ∃ r, WS r T ⟨[(4, .c none (.v (.bool c5)))], []⟩) ?_ (fun T hw => ?_)
 ·refine ns ?_
  refine e3 ?_
  refine st ?_
  refine cm (Zk.weak (rn []) (ZdJ a _ hr1) rfl (WS.mk (Zd (Zp (lc (lc (lc (lc Zn))))) Zb) Zc)) ?_
  refine st ?_
  refine Zl true (fun hc6 => ?_) (fun hc6 => ?_)
  ·have hc3 := ift hc6 hc3
   obtain ⟨r2, hr2, hc3⟩ := bind_some hc3
   (conv => whnf)
   refine st ?_
   refine e3 ?_
   refine st ?_
   refine cm (Zk.weak (rn []) (ZdJ b _ hr2) rfl (WS.mk (Zd (Zp (lc (lc (lc (lc Zn))))) Zb) Zc)) ?_
   refine st ?_
   obtain rfl := Zh hc3
   refine st ?_
   refine Zl true (fun hc7 => ?_) (fun hc7 => ?_)
   ·have hc5 := ift (And.intro hc6 hc7) hc5
    obtain ⟨r4, hr4, hc5⟩ := bind_some hc5
    (conv => whnf)
    refine st ?_
    refine e3 ?_
    refine st ?_
    refine cm (Zk.weak (rn []) (ZrT a b _ hr4) rfl (WS.mk (tc (Zd (Zp (lc (lc (lc (lc Zn))))) (Zd (Zp (lc (lc (lc (lc Zn))))) Zb))) Zc)) ?_
    refine st ?_
    obtain rfl := Zh hc5
    refine st ?_
    exact wx (WS.mk (Zd (Zq (web (And.intro hc6 hc7))) Zb) Zc)
   ·have hc5 := ife (And.intro hc6 hc7) hc5
    (conv => whnf)
    obtain rfl := Zh hc5
    refine st ?_
    exact wx (WS.mk (Zd (Zq (web (And.intro hc6 hc7))) Zb) Zc)
  ·have hc3 := ife hc6 hc3
   (conv => whnf)
   obtain rfl := Zh hc3
   have hc5 := ife hc6 hc5
   obtain rfl := Zh hc5
   refine st ?_
   exact wx (WS.mk (Zd (Zq (web hc6)) Zb) Zc)
 obtain ⟨r0, hw⟩ := hw
 (conv => whnf)
 refine AWP.weak r0 hw ?_
 obtain rfl := Zh hF
 refine ns ?_
 refine Exists.intro [] ?_
 refine st ?_
 exact wx (WS.mk (tc Zb) Zc)

mutual
def Zag (m : Zbj) (p : Za) (t : Za) : Option (Bool × Zbj) :=
 if (p.fOp == 1) = true then
 Zeg m.fat 0 p.fName >>= fun r28 =>
 if r28.2 = true then
 (ixI m.flist r28.1) >>= fun x32 =>
 ZeF x32.fType t >>= fun r33 =>
 some (r33, m)
 else
 ZV ((m.flist.length + ([(Ze.mk p.fName t)]).length) * 88 ≤ 140737488355328) >>= fun _ =>
 some (true, Zbj.mk (m.flist ++ ([(Ze.mk p.fName t)])) (ZgY m.fat p.fName ((m.flist.length : Nat) : Int)))
 else
 if (((p.fOp != t.fOp) || (!(p.fName.toList == t.fName.toList))) || (((p.fKids.length : Nat) : Int) != ((t.fKids.length : Nat) : Int))) = true then
 some (false, m)
 else
 ZT p 0 t m.flist m.fat p.fKids
 partial_fixpoint
def ZT (p : Za) (Zr9 : Nat) (t : Za) (Zg5 : (List Ze)) (Zhh : (List (ByteArray × Int))) (Zlo : (List Za)) : Option (Bool × Zbj) :=
 (match Zlo with
 | x65 :: ZC8 =>
 (t.fKids[Zr9]?) >>= fun x70 =>
 Zag (Zbj.mk Zg5 Zhh) x65 x70 >>= fun r71 =>
 if (!r71.1) = true then
 some (false, r71.2)
 else
 ZT p (Zr9 + 1) t r71.2.flist r71.2.fat ZC8
 | [] =>
 some (true, Zbj.mk Zg5 Zhh))
 partial_fixpoint
end
def Zag.M (m : Zbj) (p : Za) (t : Za) (r : Bool × Zbj) : Prop :=
 Zk Tryz.prog 47 [.ptr 1000 0, .agg [.v (.int .i64 p.fOp), .v (.string p.fName), .sl (p.fBound.fArgs.map Zj.cells), .sl (p.fKids.map Za.cells)], .agg [.v (.int .i64 t.fOp), .v (.string t.fName), .sl (t.fBound.fArgs.map Zj.cells), .sl (t.fKids.map Za.cells)]] [(1000, [((some (3000, 45)), .sl (m.flist.map Ze.cells)), (none, .rf 1001)]), (1001, [(none, .ob 109 (m.fat.map (Zdx c_S Zbn)))])] (fun d b => d = .c none (.v (.bool r.1)) ∧ b = [(1000, [((some (3000, 45)), .sl (r.2.flist.map Ze.cells)), (none, .rf 1001)]), (1001, [(none, .ob 109 (r.2.fat.map (Zdx c_S Zbn)))])])
def ZT.M (p : Za) (Zr9 : Nat) (t : Za) (Zg5 : (List Ze)) (Zhh : (List (ByteArray × Int))) (Zlo : (List Za)) (r : Bool × Zbj) : Prop :=
 ∀ Zn4 : List Za, p.fKids = Zn4 ++ Zlo → Zr9 = Zn4.length → p.fKids.length ≤ maxLen → AWL Tryz.prog 99 (Code.sub (Zr Tryz.f47) [1, 1, 1, 0, 1, 0, 0]) (Code.cont Tryz.prog 99 (Zr Tryz.f47) [1, 1, 1, 0, 1, 0] (ZbV tab Tryz.f47.results (Zb0 (.c none (.v (.bool r.1))) [(1000, [((some (3000, 45)), .sl (r.2.flist.map Ze.cells)), (none, .rf 1001)]), (1001, [(none, .ob 109 (r.2.fat.map (Zdx c_S Zbn)))])]))) ⟨[(0, .ptr 1000 0), (4, .ptr 4 0), (5, .ptr 5 0), (81, .c none (.v (.int .i64 ((p.fKids.length : Nat) : Int)))), (82, .c none (.v (.int .i64 ((Zr9 : Nat) : Int))))], [(4, [(none, .v (.int .i64 p.fOp)), (none, .v (.string p.fName)), (none, .sl (p.fBound.fArgs.map Zj.cells)), (none, .sl (p.fKids.map Za.cells))]), (5, [(none, .v (.int .i64 t.fOp)), (none, .v (.string t.fName)), (none, .sl (t.fBound.fArgs.map Zj.cells)), (none, .sl (t.fKids.map Za.cells))]), (1000, [((some (3000, 45)), .sl (Zg5.map Ze.cells)), (none, .rf 1001)]), (1001, [(none, .ob 109 (Zhh.map (Zdx c_S Zbn)))])]⟩
theorem Zkg : (∀ (m : Zbj) (p : Za) (t : Za), ∀ r, Zag m p t = some r → Zag.M m p t r) ∧ (∀ (p : Za) (Zr9 : Nat) (t : Za) (Zg5 : (List Ze)) (Zhh : (List (ByteArray × Int))) (Zlo : (List Za)), ∀ r, ZT p Zr9 t Zg5 Zhh Zlo = some r → ZT.M p Zr9 t Zg5 Zhh Zlo r) := by
 refine Zag.mutual_partial_correctness Zag.M ZT.M ?_ ?_
 ·intro unify_matcher_match_l1' Zeu m p t r hF
  unfold Zag.M
  refine en Tryz.func47 ?_
  refine AWP.seq ?_
  refine ns ?_
  refine AWP.seq ?_
  refine AWP.seq ?_
  refine ns ?_
  refine nw ?_
  refine Zi hF (fun ZkO hF => ?_) (fun ZkO hF => ?_)
  ·refine AWP.seq ?_
   refine AWP.seq ?_
   obtain ⟨r28, Zz0, hF⟩ := bind_some hF
   refine nn ?_
   refine Or.inl (Or.inl (Exists.intro 11 (Exists.intro [[], [], [], [], [], [], [], [], [], [], []] (Exists.intro [([14, 15, 16, 17, 18, 19, 20, 13, 21, 22, 7], [], []), ([15, 16, 17, 18, 19, 20, 13, 21, 22, 7], [], []), ([16, 17, 18, 19, 20, 13, 21, 22, 7], [], []), ([17, 18, 19, 20, 13, 21, 22, 7], [], []), ([14, 15, 16, 17, 18, 19, 20, 13, 21, 22, 7], [], []), ([14, 15, 16, 17, 19, 20, 13, 21, 22, 7], [], []), ([20, 13, 21, 22, 7], [], []), ([13, 21, 22, 7], [], []), ([21, 22, 7], [], []), ([21, 22, 7], [], []), ([22, 7], [], [])] (Exists.intro [14, 15, 16, 17, 18, 19, 20, 13, 21, 22, 7] (And.intro (by decide +kernel) ?_))))))
   refine dp ?_
   refine dp ?_
   refine dp ?_
   refine dp ?_
   refine dp ?_
   refine dp ?_
   (refine st ?_; apply Exists.intro; apply Exists.intro; apply And.intro; (focus (((repeat (first | ((conv => whnf); (with_reducible refine And.intro ?_ ?_); (focus (first | exact Eq.refl _ | exact trivial | (with_reducible assumption) | (with_reducible exact Int.natCast_nonneg _) | exact Nat.le_of_ble_eq_true (Eq.refl true) | exact Zdy (Eq.refl _) (Eq.refl _) (Eq.refl _) | decide))))); (conv => whnf)) <;> (refine Zge (m := m.fat) (k := p.fName) ZfO (ev := Zbn) Zz0 rfl (fun x => ZjE x) rfl rfl (lc Zn) ?_) <;> ((repeat (first | ((conv => whnf); (with_reducible refine And.intro ?_ ?_); (focus (first | exact Eq.refl _ | exact trivial | (with_reducible assumption) | (with_reducible exact Int.natCast_nonneg _) | exact Nat.le_of_ble_eq_true (Eq.refl true) | exact Zdy (Eq.refl _) (Eq.refl _) (Eq.refl _) | decide))))); (conv => whnf)) <;> (exact rfl))); apply And.intro; (focus exact rfl); (conv => whnf))
   refine dp ?_
   refine dp ?_
   refine dp ?_
   refine dp ?_
   refine st ?_
   refine AWP.seq ?_
   refine ns ?_
   refine nw ?_
   refine Zi hF (fun Znf hF => ?_) (fun Znf hF => ?_)
   ·refine AWP.seq ?_
    obtain ⟨x32, ZBe, ZAi, hF⟩ := Zd6 hF
    obtain ⟨r33, ZBF, hF⟩ := bind_some hF
    refine nn ?_
    refine Or.inl (Or.inl (Exists.intro 9 (Exists.intro [[], [], [], [], [], [], [], [], []] (Exists.intro [([24, 25, 26, 27, 28, 29, 30, 31, 32], [], []), ([25, 26, 27, 28, 29, 30, 31, 32], [], []), ([26, 27, 28, 29, 30, 31, 32], [], []), ([27, 28, 29, 30, 31, 32], [], []), ([24, 25, 26, 27, 28, 29, 30, 31, 32], [], []), ([29, 30, 31, 32], [], []), ([30, 31, 32], [], []), ([31, 32], [], []), ([24, 25, 26, 27, 28, 29, 30, 31, 32], [], [])] (Exists.intro [24, 25, 26, 27, 28, 29, 30, 31, 32] (And.intro (by decide +kernel) ?_))))))
    refine dp ?_
    refine dp ?_
    refine dp ?_
    refine dp ?_
    refine dp ?_
    refine dr (Zdi (Ze.cells_eq x32) ZAi) ?_
    refine dp ?_
    refine dp ?_
    refine dp ?_
    refine st ?_
    refine e3 ?_
    refine st ?_
    refine cm (Zk.weak (rn []) (ZqE x32.fType t _ ZBF) rfl (WS.mk (Zd (Zp (lc (lc (lc (lc Zn))))) (Zd (Zp (lc (lc (lc (lc Zn))))) Zb)) Zc)) ?_
    refine st ?_
    obtain rfl := Zh hF
    refine ns ?_
    refine Exists.intro [(1000, 1000), (1001, 1001)] ?_
    refine st ?_
    exact Exists.intro (rn [(3000, 3000)]) (WS.mk (tc Zb) (Zf rfl (ZgC rfl (WE.refl _) (cc Zg)) (Zf rfl (cc Zg) Zc)))
   ·refine nw ?_
    refine AWP.seq ?_
    refine nn ?_
    refine Or.inl (Or.inl (Exists.intro 11 (Exists.intro [[], [], [], [], [], [], [], [], [], [], []] (Exists.intro [([34, 35, 36, 37, 38, 39, 40, 41, 42, 43, 44], [], []), ([35, 36, 37, 38, 39, 40, 41, 42, 43, 44], [], []), ([36, 37, 38, 39, 40, 41, 42, 43, 44], [], []), ([37, 38, 39, 40, 41, 42, 43, 44], [], []), ([34, 35, 36, 37, 38, 39, 40, 41, 42, 43, 44], [], []), ([34, 35, 36, 37, 39, 40, 41, 42, 43, 44], [], []), ([34, 35, 36, 37, 38, 39, 40, 41, 42, 43, 44], [], []), ([34, 35, 36, 37, 38, 39, 41, 42, 43, 44], [], []), ([34, 35, 36, 37, 38, 39, 42, 43, 44], [], []), ([34, 35, 36, 37, 38, 39, 43, 44], [], []), ([34, 35, 36, 37, 38, 39, 44], [], [])] (Exists.intro [34, 35, 36, 37, 38, 39, 40, 41, 42, 43, 44] (And.intro (by decide +kernel) ?_))))))
    refine dp ?_
    refine dp ?_
    refine dp ?_
    refine dp ?_
    refine dp ?_
    refine dp ?_
    refine dp ?_
    refine dp ?_
    refine dp ?_
    refine dp ?_
    refine dl ?_
    refine st ?_
    refine ZmJ (m := m.fat) (k := p.fName) (v := ((m.flist.length : Nat) : Int)) ZfO (ev := Zbn) (lc Zn) ?_
    refine st ?_
    refine AWP.seq ?_
    obtain ⟨ZGB, hF⟩ := Zv hF
    refine nn ?_
    refine Or.inl (Or.inr (Exists.intro [0, 5, 6, 7, 8, 9] (Exists.intro [[45, 50, 51, 52, 53, 54], [45, 50, 51, 52, 53, 54], [45, 51, 52, 53, 54], [45, 50, 51, 52, 53, 54], [45, 53, 54], [45, 54]] (Exists.intro [4, 5] (Exists.intro [0, 4, 5, 45, 50, 51, 52, 53, 54] (Exists.intro [45, 50, 51, 52, 53, 54] (Exists.intro [1, 2, 3, 4, 10, 11, 12, 13] (And.intro (by decide +kernel) ?_))))))))
    refine dp ?_
    refine dp ?_
    refine dp ?_
    refine dp ?_
    refine dp ?_
    refine de (Zcb (f := Ze.cells) (ZdW (Ze.cells_eq (Ze.mk p.fName t)) (lc (lc (lc (lc (lc Zn)))))) (Zap (f := Ze.cells))) ?_
    refine sa (fun l => ZbH l (fun x => Ze.cells_len x)) ZGB ?_
    refine Exists.intro _ (And.intro (WE.refl _) ?_)
    rw [← List.map_append]
    refine st ?_
    refine AWP.seq ?_
    refine ns ?_
    obtain rfl := Zh hF
    refine ns ?_
    refine Exists.intro [(1000, 1000), (1001, 1001)] ?_
    refine st ?_
    exact Exists.intro (rn [(55, 3000)]) (WS.mk (tc Zb) (Zf rfl (ZgC rfl (WE.refl _) (cc Zg)) (Zf rfl (cc Zg) Zc)))
  ·refine nw ?_
   refine AWP.seq ?_
   refine AWP.seq ?_
   refine AWP.cutN (fun T => ∃ r, WS r T ⟨[(0, .ptr 1000 0), (4, .ptr 4 0), (5, .ptr 5 0), (78, .c none (.v (.bool (((p.fOp != t.fOp) || (!(p.fName.toList == t.fName.toList))) || (((p.fKids.length : Nat) : Int) != ((t.fKids.length : Nat) : Int))))))], [(4, [(none, .v (.int .i64 p.fOp)), (none, .v (.string p.fName)), (none, .sl (p.fBound.fArgs.map Zj.cells)), (none, .sl (p.fKids.map Za.cells))]), (5, [(none, .v (.int .i64 t.fOp)), (none, .v (.string t.fName)), (none, .sl (t.fBound.fArgs.map Zj.cells)), (none, .sl (t.fKids.map Za.cells))]), (1000, [((some (3000, 45)), .sl (m.flist.map Ze.cells)), (none, .rf 1001)]), (1001, [(none, .ob 109 (m.fat.map (Zdx c_S Zbn)))])]⟩) ?_ (fun T hw => ?_)
   ·refine ns ?_
    refine Zl false (fun Zp3 => ?_) (fun Zp3 => ?_)
    ·(conv => whnf)
     refine st ?_
     exact Exists.intro (rn [(3000, 3000)]) (WS.mk (tp (tp (tp (Zd (Zq (web Zp3)) Zb)))) (Zf rfl (cc (cc (cc (cc Zg)))) (Zf rfl (cc (cc (cc (cc Zg)))) (Zf rfl (ZgC rfl (WE.refl _) (cc Zg)) (Zf rfl (cc Zg) Zc)))))
    ·(conv => whnf)
     refine st ?_
     refine Zl false (fun Zv0 => ?_) (fun Zv0 => ?_)
     ·(conv => whnf)
      refine st ?_
      exact Exists.intro (rn [(3000, 3000)]) (WS.mk (tp (tp (tp (Zd (Zq (web (And.intro Zp3 Zv0))) Zb)))) (Zf rfl (cc (cc (cc (cc Zg)))) (Zf rfl (cc (cc (cc (cc Zg)))) (Zf rfl (ZgC rfl (WE.refl _) (cc Zg)) (Zf rfl (cc Zg) Zc)))))
     ·(conv => whnf)
      refine st ?_
      intro hlen40
      (try rw [List.length_map] at hlen40)
      (try rw [List.length_map])
      refine st ?_
      intro hlen41
      (try rw [List.length_map] at hlen41)
      (try rw [List.length_map])
      refine st ?_
      exact Exists.intro (rn [(3000, 3000)]) (WS.mk (tp (tp (tp (Zd (Zq (web (And.intro Zp3 Zv0))) Zb)))) (Zf rfl (cc (cc (cc (cc Zg)))) (Zf rfl (cc (cc (cc (cc Zg)))) (Zf rfl (ZgC rfl (WE.refl _) (cc Zg)) (Zf rfl (cc Zg) Zc)))))
   obtain ⟨r0, hw⟩ := hw
   (conv => whnf)
   refine AWP.weak r0 hw ?_
   refine nw ?_
   refine Zi hF (fun ZBH hF => ?_) (fun ZBH hF => ?_)
   ·refine AWP.seq ?_
    refine ns ?_
    obtain rfl := Zh hF
    refine ns ?_
    refine Exists.intro [(1000, 1000), (1001, 1001)] ?_
    refine st ?_
    exact Exists.intro (rn [(3000, 3000)]) (WS.mk (tc Zb) (Zf rfl (ZgC rfl (WE.refl _) (cc Zg)) (Zf rfl (cc Zg) Zc)))
   ·refine nw ?_
    refine AWP.seq ?_
    refine AWP.seq ?_
    refine ns ?_
    intro hlen45
    (try rw [List.length_map] at hlen45)
    (try rw [List.length_map])
    refine st ?_
    refine AWP.block ?_
    refine AWP.loop ?_
    refine AWL.weak (rn [(3000, 3000)]) ?_ (Zeu p 0 t m.flist m.fat p.fKids _ hF ([]) rfl rfl hlen45)
    exact (WS.mk (tp (tp (tp (tc (tc Zb))))) (Zf rfl (cc (cc (cc (cc Zg)))) (Zf rfl (cc (cc (cc (cc Zg)))) (Zf rfl (ZgC rfl (WE.refl _) (cc Zg)) (Zf rfl (cc Zg) Zc)))))
 ·intro unify_matcher_match' unify_matcher_match_l1' ZkN Zeu p Zr9 t Zg5 Zhh Zlo r hF
  unfold ZT.M
  intro Zn4 Zwt Zxc hlen45
  refine AWL.step ?_
  refine AWP.seq ?_
  refine ns ?_
  refine AWP.seq ?_
  refine nw ?_
  refine ZF Zwt Zxc (fun x65 ZC8 ZCa ZB2 ZGh => ?_) (fun ZCa => ?_)
  ·subst ZCa
   refine nw ?_
   refine AWP.seq ?_
   refine AWP.block ?_
   refine AWP.seq ?_
   refine ns ?_
   refine AWP.seq ?_
   obtain ⟨x70, ZF6, hF⟩ := bind_some hF
   obtain ⟨r71, ZFV, hF⟩ := bind_some hF
   refine nn ?_
   refine Or.inl (Or.inl (Exists.intro 11 (Exists.intro [[], [], [], [], [], [], [], [], [], [], []] (Exists.intro [([85, 86, 87, 88, 89, 90, 91, 92, 93, 94, 95], [], []), ([85, 86, 87, 88, 89, 90, 91, 92, 93, 94, 95], [], []), ([85, 87, 88, 89, 90, 91, 92, 93, 94, 95], [], []), ([85, 86, 87, 88, 89, 90, 91, 92, 93, 94, 95], [], []), ([85, 89, 90, 91, 92, 93, 94, 95], [], []), ([85, 90, 91, 92, 93, 94, 95], [], []), ([85, 86, 87, 88, 89, 90, 91, 92, 93, 94, 95], [], []), ([85, 86, 87, 88, 89, 90, 92, 93, 94, 95], [], []), ([85, 86, 87, 88, 89, 90, 91, 92, 93, 94, 95], [], []), ([85, 86, 87, 88, 89, 90, 94, 95], [], []), ([85, 86, 87, 88, 89, 90, 95], [], [])] (Exists.intro [85, 86, 87, 88, 89, 90, 91, 92, 93, 94, 95] (And.intro (by decide +kernel) ?_))))))
   refine dp ?_
   refine dp ?_
   refine dp ?_
   refine dp ?_
   refine dr (ZX (Za.cells_eq x65) ZB2) ?_
   refine dp ?_
   refine dp ?_
   refine dp ?_
   refine dp ?_
   refine dr (ZX (Za.cells_eq x70) ZF6) ?_
   refine dp ?_
   refine st ?_
   refine Exists.intro [] (Exists.intro [(1000, 1000), (1001, 1001)] (Exists.intro [] ?_))
   refine st ?_
   refine cm (Zk.weak (rn [(3000, 3000)]) (ZkN (Zbj.mk Zg5 Zhh) x65 x70 _ ZFV) rfl (WS.mk (tp (Zd (Zp (lc (lc (lc (lc Zn))))) (Zd (Zp (lc (lc (lc (lc Zn))))) Zb))) (Zf rfl (ZgC rfl (WE.refl _) (cc Zg)) (Zf rfl (cc Zg) Zc)))) ?_
   refine st ?_
   refine nw ?_
   refine Zi hF (fun ZCs hF => ?_) (fun ZCs hF => ?_)
   ·refine AWP.seq ?_
    refine ns ?_
    obtain rfl := Zh hF
    refine ns ?_
    refine Exists.intro [(1000, 1000), (1001, 1001)] ?_
    refine st ?_
    exact Exists.intro (rn [(3000, 3000)]) (WS.mk (tc Zb) (Zf rfl (ZgC rfl (WE.refl _) (cc Zg)) (Zf rfl (cc Zg) Zc)))
   ·refine nw ?_
    refine ns ?_
    refine AWL.weak (rn [(3000, 3000)]) ?_ (Zeu p (Zr9 + 1) t r71.2.flist r71.2.fat ZC8 _ hF (Zn4 ++ [x65]) (by rw [Zwt]; simp) (by rw [Zxc]; simp) hlen45)
    exact (WS.mk (tp (tp (tp (tc (Zd (Zq (Zc0 (ZP hlen45 ZGh))) Zb))))) (Zf rfl (cc (cc (cc (cc Zg)))) (Zf rfl (cc (cc (cc (cc Zg)))) (Zf rfl (ZgC rfl (WE.refl _) (cc Zg)) (Zf rfl (cc Zg) Zc)))))
  ·subst ZCa
   refine nw ?_
   refine AWP.seq ?_
   refine ns ?_
   obtain rfl := Zh hF
   refine ns ?_
   refine Exists.intro [(1000, 1000), (1001, 1001)] ?_
   refine st ?_
   exact Exists.intro (rn [(3000, 3000)]) (WS.mk (tc Zb) (Zf rfl (ZgC rfl (WE.refl _) (cc Zg)) (Zf rfl (cc Zg) Zc)))
theorem Zle : ∀ (m : Zbj) (p : Za) (t : Za), ∀ r, Zag m p t = some r → Zag.M m p t r := Zkg.1

def ZaY (name_ : ByteArray) (i_5 : Nat) (s : (List Ze)) (Zat : (List Ze)) : Option (Int) :=
 (match Zat with
 | x16 :: ZiV =>
 if (x16.fName.toList == name_.toList) = true then
 some ((i_5 : Nat) : Int)
 else
 ZaY name_ (i_5 + 1) s ZiV
 | [] =>
 some (-1))
 partial_fixpoint
def ZaY.M (name_ : ByteArray) (i_5 : Nat) (s : (List Ze)) (Zat : (List Ze)) (r : Int) : Prop :=
 ∀ Zda : List Ze, s = Zda ++ Zat → i_5 = Zda.length → AWL Tryz.prog 20 (Code.sub (Zr Tryz.f46) [1, 0, 1, 0, 0]) (Code.cont Tryz.prog 20 (Zr Tryz.f46) [1, 0, 1, 0] (ZbV tab Tryz.f46.results (Zb0 (.c none (.v (.int .i64 r))) [(1000, [(none, .ob 90 (s.map Ze.cells))])]))) ⟨[(0, .c none (.rs 1000 s.length)), (1, .c none (.v (.string name_))), (5, .c none (.v (.int .i64 ((i_5 : Nat) : Int))))], [(1000, [(none, .ob 90 (s.map Ze.cells))])]⟩
theorem ZkJ (name_ : ByteArray) (i_5 : Nat) (s : (List Ze)) (Zat : (List Ze)) : ∀ r, ZaY name_ i_5 s Zat = some r → ZaY.M name_ i_5 s Zat r := by
 refine ZaY.partial_correctness name_ s (fun i_5 Zat r => ZaY.M name_ i_5 s Zat r) ?_ i_5 Zat
 intro lazycref18_find__l1' ZgL i_5 Zat r hF
 have ZkZ := fun (_name_ : ByteArray) (i_5 : Nat) (_s : (List Ze)) (Zat : (List Ze)) => ZgL i_5 Zat
 clear ZgL
 unfold ZaY.M
 intro Zda Zhc Zhn
 refine AWL.step ?_
 refine AWP.seq ?_
 refine AWP.seq ?_
 refine ns ?_
 intro hlen15
 (try rw [List.length_map] at hlen15)
 (try rw [List.length_map])
 refine st ?_
 refine nw ?_
 refine ZF Zhc Zhn (fun x16 ZiV Zjf Zp0 ZrK => ?_) (fun Zjf => ?_)
 ·subst Zjf
  refine nw ?_
  refine AWP.seq ?_
  refine AWP.block ?_
  refine AWP.seq ?_
  refine ns ?_
  refine And.intro (ZqM Zp0) ?_
  refine st ?_
  refine sr (ZX (f := Ze.cells) (Ze.cells_eq x16) Zp0) ?_
  refine st ?_
  refine nw ?_
  refine Zi hF (fun ZkO hF => ?_) (fun ZkO hF => ?_)
  ·refine AWP.seq ?_
   refine ns ?_
   obtain rfl := Zh hF
   refine ns ?_
   refine Exists.intro [(1000, 1000)] ?_
   refine st ?_
   exact wx (WS.mk (tc Zb) (Zf rfl (cc Zg) Zc))
  ·refine nw ?_
   refine ns ?_
   refine AWL.weak (rn []) ?_ (ZkZ name_ (i_5 + 1) s ZiV _ hF (Zda ++ [x16]) (by rw [Zhc]; simp) (by rw [Zhn]; simp))
   exact (WS.mk (Zd (Zq (Z2 (by first | exact rfl | simp only [List.length_set]))) (tc (Zd (Zq (Zc0 (ZP hlen15 ZrK))) Zb))) (Zf rfl (cc Zg) Zc))
 ·subst Zjf
  refine nw ?_
  refine AWP.seq ?_
  refine ns ?_
  obtain rfl := Zh hF
  refine ns ?_
  refine Exists.intro [(1000, 1000)] ?_
  refine st ?_
  exact wx (WS.mk (tc Zb) (Zf rfl (cc Zg) Zc))

def ZbR (s : (List Ze)) (name_ : ByteArray) : Option (Int) :=
 ZaY name_ 0 s s
def ZbR.M (s : (List Ze)) (name_ : ByteArray) (r : Int) : Prop :=
 Zk Tryz.prog 46 [.c none (.rs 1000 s.length), .c none (.v (.string name_))] [(1000, [(none, .ob 90 (s.map Ze.cells))])] (fun d b => d = .c none (.v (.int .i64 r)) ∧ b = [(1000, [(none, .ob 90 (s.map Ze.cells))])])
theorem Zir (s : (List Ze)) (name_ : ByteArray) (r : Int) (hF : ZbR s name_ = some r) : ZbR.M s name_ r := by
 unfold ZbR at hF
 unfold ZbR.M
 refine en Tryz.func46 ?_
 refine AWP.seq ?_
 refine ns ?_
 refine AWP.seq ?_
 refine AWP.seq ?_
 refine ns ?_
 refine AWP.block ?_
 refine AWP.loop ?_
 refine AWL.weak (rn []) ?_ (ZkJ name_ 0 s s _ hF ([]) rfl rfl)
 exact (WS.mk (Zd (Zq (Z2 (by first | exact rfl | simp only [List.length_set]))) (tc (tc Zb))) (Zf rfl (cc Zg) Zc))

end Go.Proofs.YtgbglhbdjambbaaGreatDoor
