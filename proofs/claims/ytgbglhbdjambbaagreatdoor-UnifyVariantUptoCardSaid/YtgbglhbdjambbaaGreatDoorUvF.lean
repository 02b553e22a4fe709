/- Part 6 of the proof: the program's functions as Lean functions with their walks, and the plain law. It holds for every input, without conditions. -/
import Derived.Test.YtgbglhbdjambbaaGreatDoorUvA
import Derived.Test.YtgbglhbdjambbaaGreatDoorUvB
import Derived.Test.YtgbglhbdjambbaaGreatDoorUvC
import Derived.Test.YtgbglhbdjambbaaGreatDoorUvD
import Derived.Test.YtgbglhbdjambbaaGreatDoorUvE
set_option linter.unusedVariables false
set_option linter.unusedSimpArgs false
set_option maxRecDepth 100000
set_option maxHeartbeats 4000000
set_option synthInstance.maxHeartbeats 1000000
set_option synthInstance.maxSize 1000
namespace Go.Proofs.YtgbglhbdjambbaaGreatDoor
open Go Go.Am
def Za0 (t : Za) (s : Zr) : Option (Za) :=
 some t
def Za0.M (t : Za) (s : Zr) (r : Za) : Prop :=
 AWP Tryz.prog 30 (Code.sub (Zs Tryz.f52) [1, 1]) (Code.cont Tryz.prog 30 (Zs Tryz.f52) [1, 1] (Zce tab Tryz.f52.results (Zch (.agg [.v (.int .i64 r.fOp), .v (.string r.fName), .sl (r.fBound.fArgs.map Zi.cells), .sl (r.fKids.map Za.cells)]) [(1000, [(none, .rs 1001 s.flist.length), (none, .rf 1002)]), (1001, [(none, .ob 90 (s.flist.map Zf.cells))]), (1002, [(none, .ob 109 (s.fat.map (Zcj c_S Zba)))])]))) ⟨[(3, .ptr 3 0), (4, .ptr 4 0)], [(3, [(none, .v (.int .i64 t.fOp)), (none, .v (.string t.fName)), (none, .sl (t.fBound.fArgs.map Zi.cells)), (none, .sl (t.fKids.map Za.cells))]), (4, [(none, .v (.int .i64 0)), (none, .v (.string (ByteArray.mk #[]))), (none, .nils), (none, .nils)]), (1000, [(none, .rs 1001 s.flist.length), (none, .rf 1002)]), (1001, [(none, .ob 90 (s.flist.map Zf.cells))]), (1002, [(none, .ob 109 (s.fat.map (Zcj c_S Zba)))])]⟩
theorem ZeV (t : Za) (s : Zr) (r : Za) (hF : Za0 t s = some r) : Za0.M t s r := by
 unfold Za0 at hF
 unfold Za0.M
 refine AWP.seq ?_
 refine ns ?_
 obtain rfl := Zh hF
 refine ns ?_
 refine Exists.intro [(1000, 1000), (1001, 1001), (1002, 1002)] ?_
 refine st ?_
 exact wx (WS.mk (Zd (Zq (lc (lc (lc (lc Zn))))) Zb) (Ze rfl (Zd3 (ZV (by first | exact rfl | simp only [List.length_set])) (cc Zg)) (Ze rfl (cc Zg) (Ze rfl (cc Zg) Zc))))

def Zas (s : Zr) (t : Za) : Option (Za) :=
 if (t.fOp == 1) = true then
 Zdf s.fat 0 t.fName >>= fun r8 =>
 if r8.2 = true then
 (ixI s.flist r8.1) >>= fun x10 =>
 some x10.fType
 else
 Za0 t s
 else
 Za0 t s
def Zas.M (s : Zr) (t : Za) (r : Za) : Prop :=
 Zk Tryz.prog 52 [.ptr 1000 0, .agg [.v (.int .i64 t.fOp), .v (.string t.fName), .sl (t.fBound.fArgs.map Zi.cells), .sl (t.fKids.map Za.cells)]] [(1000, [(none, .rs 1001 s.flist.length), (none, .rf 1002)]), (1001, [(none, .ob 90 (s.flist.map Zf.cells))]), (1002, [(none, .ob 109 (s.fat.map (Zcj c_S Zba)))])] (fun d b => d = .agg [.v (.int .i64 r.fOp), .v (.string r.fName), .sl (r.fBound.fArgs.map Zi.cells), .sl (r.fKids.map Za.cells)] ∧ b = [(1000, [(none, .rs 1001 s.flist.length), (none, .rf 1002)]), (1001, [(none, .ob 90 (s.flist.map Zf.cells))]), (1002, [(none, .ob 109 (s.fat.map (Zcj c_S Zba)))])])
theorem ZfD (s : Zr) (t : Za) (r : Za) (hF : Zas s t = some r) : Zas.M s t r := by
 unfold Zas at hF
 unfold Zas.M
 refine en Tryz.func52 ?_
 refine AWP.seq ?_
 refine ns ?_
 refine AWP.seq ?_
 refine AWP.seq ?_
 refine ns ?_
 refine nw ?_
 refine Zj hF (fun hc6 hF => ?_) (fun hc6 hF => ?_)
 ·refine AWP.seq ?_
  obtain ⟨r8, hr8, hF⟩ := bind_some hF
  refine nn ?_
  refine Or.inl (Or.inl (Exists.intro 11 (Exists.intro [[], [], [], [], [], [], [], [], [], [], []] (Exists.intro [([11, 12, 13, 14, 15, 16, 17, 10, 18, 19, 5], [], []), ([12, 13, 14, 15, 16, 17, 10, 18, 19, 5], [], []), ([13, 14, 15, 16, 17, 10, 18, 19, 5], [], []), ([14, 15, 16, 17, 10, 18, 19, 5], [], []), ([11, 12, 13, 14, 15, 16, 17, 10, 18, 19, 5], [], []), ([11, 12, 13, 14, 16, 17, 10, 18, 19, 5], [], []), ([17, 10, 18, 19, 5], [], []), ([10, 18, 19, 5], [], []), ([18, 19, 5], [], []), ([18, 19, 5], [], []), ([19, 5], [], [])] (Exists.intro [11, 12, 13, 14, 15, 16, 17, 10, 18, 19, 5] (And.intro (by decide +kernel) ?_))))))
  refine dp ?_
  refine dp ?_
  refine dp ?_
  refine dp ?_
  refine dp ?_
  refine dp ?_
  (refine st ?_; apply Exists.intro; apply Exists.intro; apply And.intro; (focus (((repeat (first | ((conv => whnf); (with_reducible refine And.intro ?_ ?_); (focus (first | exact Eq.refl _ | exact trivial | (with_reducible assumption) | (with_reducible exact Int.natCast_nonneg _) | exact Nat.le_of_ble_eq_true (Eq.refl true) | exact ZcV (Eq.refl _) (Eq.refl _) (Eq.refl _) | decide))))); (conv => whnf)) <;> (refine ZeP (m := s.fat) (k := t.fName) Zeh (ev := Zba) hr8 rfl (fun x => ZiH x) rfl rfl (lc Zn) ?_) <;> ((repeat (first | ((conv => whnf); (with_reducible refine And.intro ?_ ?_); (focus (first | exact Eq.refl _ | exact trivial | (with_reducible assumption) | (with_reducible exact Int.natCast_nonneg _) | exact Nat.le_of_ble_eq_true (Eq.refl true) | exact ZcV (Eq.refl _) (Eq.refl _) (Eq.refl _) | decide))))); (conv => whnf)) <;> (exact rfl))); apply And.intro; (focus exact rfl); (conv => whnf))
  refine dp ?_
  refine dp ?_
  refine dp ?_
  refine dp ?_
  refine st ?_
  refine AWP.seq ?_
  refine ns ?_
  refine nw ?_
  refine Zj hF (fun hc9 hF => ?_) (fun hc9 hF => ?_)
  ·refine AWP.seq ?_
   obtain ⟨x10, ZB8, ZCX, hF⟩ := Zeo hF
   refine ns ?_
   refine And.intro (Zp0 ZB8 ZCX) ?_
   refine st ?_
   refine sr (ZdC (f := Zf.cells) (Zf.cells_eq x10) ZCX) ?_
   refine st ?_
   obtain rfl := Zh hF
   refine ns ?_
   refine Exists.intro [(1000, 1000), (1001, 1001), (1002, 1002)] ?_
   refine st ?_
   exact wx (WS.mk (Zd (Zq (lc (lc (lc (lc Zn))))) Zb) (Ze rfl (Zd3 (ZV (by first | exact rfl | simp only [List.length_set])) (cc Zg)) (Ze rfl (cc Zg) (Ze rfl (cc Zg) Zc))))
  ·refine nw ?_
   refine AWP.weak (rn []) ?_ (ZeV t s _ hF)
   exact (WS.mk (tp (tp Zb)) (Ze rfl (cc (cc (cc (cc Zg)))) (Ze rfl (cc (cc (cc (cc Zg)))) (Ze rfl (Zd3 (ZV (by first | exact rfl | simp only [List.length_set])) (cc Zg)) (Ze rfl (cc Zg) (Ze rfl (cc Zg) Zc))))))
 ·refine nw ?_
  refine AWP.weak (rn []) ?_ (ZeV t s _ hF)
  exact (WS.mk (tp (tp Zb)) (Ze rfl (cc (cc (cc (cc Zg)))) (Ze rfl (cc (cc (cc (cc Zg)))) (Ze rfl (Zd3 (ZV (by first | exact rfl | simp only [List.length_set])) (cc Zg)) (Ze rfl (cc Zg) (Ze rfl (cc Zg) Zc))))))

def Zam (s : (List ByteArray)) (v : ByteArray) (x_8 : Nat) (Zay : (List ByteArray)) : Option (Int) :=
 (match Zay with
 | x11 :: ZjF =>
 if (v.toList == x11.toList) = true then
 some ((x_8 : Nat) : Int)
 else
 Zam s v (x_8 + 1) ZjF
 | [] =>
 some (-1))
 partial_fixpoint
def Zam.M (s : (List ByteArray)) (v : ByteArray) (x_8 : Nat) (Zay : (List ByteArray)) (r : Int) : Prop :=
 ∀ ZcP : List ByteArray, s = ZcP ++ Zay → x_8 = ZcP.length → s.length ≤ maxLen → AWL Tryz.prog 19 (Code.sub (Zs Tryz.f123) [1, 0, 1, 0, 0]) (Code.cont Tryz.prog 19 (Zs Tryz.f123) [1, 0, 1, 0] (Zce tab Tryz.f123.results (Zch (.c none (.v (.int .i64 r))) []))) ⟨[(0, .c none (.sl (s.map c_S))), (1, .c none (.v (.string v))), (7, .c none (.v (.int .i64 ((s.length : Nat) : Int)))), (8, .c none (.v (.int .i64 ((x_8 : Nat) : Int))))], []⟩
theorem Ziy (s : (List ByteArray)) (v : ByteArray) (x_8 : Nat) (Zay : (List ByteArray)) : ∀ r, Zam s v x_8 Zay = some r → Zam.M s v x_8 Zay r := by
 refine Zam.partial_correctness s v (fun x_8 Zay r => Zam.M s v x_8 Zay r) ?_ x_8 Zay
 intro slices_Index_string_l1' Ze2 x_8 Zay r hF
 have Zit := fun (_s : (List ByteArray)) (_v : ByteArray) (x_8 : Nat) (Zay : (List ByteArray)) => Ze2 x_8 Zay
 clear Ze2
 unfold Zam.M
 intro ZcP Zgx Zgk hlen1
 refine AWL.step ?_
 refine AWP.seq ?_
 refine ns ?_
 refine AWP.seq ?_
 refine nw ?_
 refine ZK Zgx Zgk (fun x11 ZjF ZjR Zpa ZsC => ?_) (fun ZjR => ?_)
 ·subst ZjR
  refine nw ?_
  refine AWP.seq ?_
  refine AWP.block ?_
  refine AWP.seq ?_
  refine ns ?_
  refine AWP.seq ?_
  refine nn ?_
  refine sr (Zag (f := c_S) rfl Zpa) ?_
  refine st ?_
  refine nw ?_
  refine Zj hF (fun Zcx hF => ?_) (fun Zcx hF => ?_)
  ·refine AWP.seq ?_
   refine ns ?_
   obtain rfl := Zh hF
   refine ns ?_
   refine Exists.intro [] ?_
   refine st ?_
   exact wx (WS.mk (tc Zb) Zc)
  ·refine nw ?_
   refine ns ?_
   refine AWL.weak (rn []) ?_ (Zit s v (x_8 + 1) ZjF _ hF (ZcP ++ [x11]) (by rw [Zgx]; simp) (by rw [Zgk]; simp) hlen1)
   exact (WS.mk (tc (tc (tc (Zd (Zp (Zc3 (ZX hlen1 ZsC))) Zb)))) Zc)
 ·subst ZjR
  refine nw ?_
  refine AWP.seq ?_
  refine ns ?_
  obtain rfl := Zh hF
  refine ns ?_
  refine Exists.intro [] ?_
  refine st ?_
  exact wx (WS.mk (tc Zb) Zc)

def Zcz (s : (List ByteArray)) (v : ByteArray) : Option (Int) :=
 Zam s v 0 s
def Zcz.M (s : (List ByteArray)) (v : ByteArray) (r : Int) : Prop :=
 Zk Tryz.prog 123 [.c none (.sl (s.map c_S)), .c none (.v (.string v))] [] (fun d b => d = .c none (.v (.int .i64 r)) ∧ b = [])
theorem ZjA (s : (List ByteArray)) (v : ByteArray) (r : Int) (hF : Zcz s v = some r) : Zcz.M s v r := by
 unfold Zcz at hF
 unfold Zcz.M
 refine en Tryz.func123 ?_
 refine AWP.seq ?_
 refine ns ?_
 refine AWP.seq ?_
 refine AWP.seq ?_
 refine ns ?_
 intro hlen1
 (try rw [List.length_map] at hlen1)
 (try rw [List.length_map])
 refine st ?_
 refine AWP.block ?_
 refine AWP.loop ?_
 refine AWL.weak (rn []) ?_ (Ziy s v 0 s _ hF ([]) rfl rfl hlen1)
 exact (WS.mk (tc (tc (tc (tc Zb)))) Zc)

def Zae (s : (List ByteArray)) (v : ByteArray) : Option (Bool) :=
 Zcz s v >>= fun r1 =>
 some (decide (r1 ≥ 0))
def Zae.M (s : (List ByteArray)) (v : ByteArray) (r : Bool) : Prop :=
 Zk Tryz.prog 97 [.c none (.sl (s.map c_S)), .c none (.v (.string v))] [] (fun d b => d = .c none (.v (.bool r)) ∧ b = [])
theorem Zd2 (s : (List ByteArray)) (v : ByteArray) (r : Bool) (hF : Zae s v = some r) : Zae.M s v r := by
 unfold Zae at hF
 unfold Zae.M
 refine en Tryz.func97 ?_
 refine AWP.seq ?_
 refine ns ?_
 refine AWP.seq ?_
 obtain ⟨r1, hr1, hF⟩ := bind_some hF
 refine ns ?_
 refine e3 ?_
 refine st ?_
 refine cm (Zk.weak (rn []) (ZjA s v _ hr1) rfl (WS.mk (tc (tc Zb)) Zc)) ?_
 refine st ?_
 obtain rfl := Zh hF
 refine ns ?_
 refine Exists.intro [] ?_
 refine st ?_
 exact wx (WS.mk (tc Zb) Zc)

mutual
def ZcA (l : (List ByteArray)) (Zc5 : (List ByteArray)) (t : Za) : Option ((List ByteArray)) :=
 if (t.fOp == 1) = true then
 Zae Zc5 t.fName >>= fun r27 =>
 (if (!r27) = true then Zae l t.fName >>= fun r28 =>
 some (!r28) else some false) >>= fun c29 =>
 if c29 = true then
 Zac ((l.length + ([t.fName]).length) * 16 ≤ 140737488355328) >>= fun _ =>
 Zbw (l ++ ([t.fName])) Zc5 t
 else
 Zbw l Zc5 t
 else
 if (t.fOp == 4) = true then
 Zc2 Zc5 >>= fun r36 =>
 Zac ((r36.length + ([t.fName]).length) * 16 ≤ 140737488355328) >>= fun _ =>
 Zbw l (r36 ++ ([t.fName])) t
 else
 Zbw l Zc5 t
 partial_fixpoint
def Zbw (l_0 : (List ByteArray)) (ZdG : (List ByteArray)) (t : Za) : Option ((List ByteArray)) :=
 Zbt l_0 ZdG t 0 t.fKids
 partial_fixpoint
def Zbt (l_0 : (List ByteArray)) (ZdG : (List ByteArray)) (t : Za) (Zl5 : Nat) (ZjZ : (List Za)) : Option ((List ByteArray)) :=
 (match ZjZ with
 | x22 :: Zuv =>
 ZcA l_0 ZdG x22 >>= fun r25 =>
 Zbt r25 ZdG t (Zl5 + 1) Zuv
 | [] =>
 some l_0)
 partial_fixpoint
end
def ZcA.M (l : (List ByteArray)) (Zc5 : (List ByteArray)) (t : Za) (r : (List ByteArray)) : Prop :=
 Zk Tryz.prog 96 [.c (some (0, 9)) (.sl (l.map c_S)), .c none (.sl (Zc5.map c_S)), .agg [.v (.int .i64 t.fOp), .v (.string t.fName), .sl (t.fBound.fArgs.map Zi.cells), .sl (t.fKids.map Za.cells)]] [] (fun d b => d = .c (some (0, 9)) (.sl (r.map c_S)) ∧ b = [])
def Zbw.M (l_0 : (List ByteArray)) (ZdG : (List ByteArray)) (t : Za) (r : (List ByteArray)) : Prop :=
 AWP Tryz.prog 51 (Code.sub (Zs Tryz.f96) [1, 1]) (Code.cont Tryz.prog 51 (Zs Tryz.f96) [1, 1] (Zce tab Tryz.f96.results (Zch (.c (some (0, 9)) (.sl (r.map c_S))) []))) ⟨[(0, .c (some (0, 9)) (.sl (l_0.map c_S))), (1, .c none (.sl (ZdG.map c_S))), (5, .ptr 5 0)], [(5, [(none, .v (.int .i64 t.fOp)), (none, .v (.string t.fName)), (none, .sl (t.fBound.fArgs.map Zi.cells)), (none, .sl (t.fKids.map Za.cells))])]⟩
def Zbt.M (l_0 : (List ByteArray)) (ZdG : (List ByteArray)) (t : Za) (Zl5 : Nat) (ZjZ : (List Za)) (r : (List ByteArray)) : Prop :=
 ∀ ZmV : List Za, t.fKids = ZmV ++ ZjZ → Zl5 = ZmV.length → t.fKids.length ≤ maxLen → AWL Tryz.prog 51 (Code.sub (Zs Tryz.f96) [1, 1, 0, 1, 0, 0]) (Code.cont Tryz.prog 51 (Zs Tryz.f96) [1, 1, 0, 1, 0] (Zce tab Tryz.f96.results (Zch (.c (some (0, 9)) (.sl (r.map c_S))) []))) ⟨[(0, .c (some (0, 9)) (.sl (l_0.map c_S))), (1, .c none (.sl (ZdG.map c_S))), (39, .c none (.sl (t.fKids.map Za.cells))), (40, .c none (.v (.int .i64 ((t.fKids.length : Nat) : Int)))), (41, .c none (.v (.int .i64 ((Zl5 : Nat) : Int))))], []⟩
theorem ZpY : (∀ (l : (List ByteArray)) (Zc5 : (List ByteArray)) (t : Za), ∀ r, ZcA l Zc5 t = some r → ZcA.M l Zc5 t r) ∧ (∀ (l_0 : (List ByteArray)) (ZdG : (List ByteArray)) (t : Za), ∀ r, Zbw l_0 ZdG t = some r → Zbw.M l_0 ZdG t r) ∧ (∀ (l_0 : (List ByteArray)) (ZdG : (List ByteArray)) (t : Za) (Zl5 : Nat) (ZjZ : (List Za)), ∀ r, Zbt l_0 ZdG t Zl5 ZjZ = some r → Zbt.M l_0 ZdG t Zl5 ZjZ r) := by
 refine ZcA.mutual_partial_correctness ZcA.M Zbw.M Zbt.M ?_ ?_ ?_
 ·intro types_free_k1' Zfk l Zc5 t r hF
  unfold ZcA.M
  refine en Tryz.func96 ?_
  refine AWP.seq ?_
  refine ns ?_
  refine AWP.seq ?_
  refine AWP.seq ?_
  refine ns ?_
  refine AWP.block ?_
  refine AWP.seq ?_
  refine ns ?_
  refine nw ?_
  refine Zj hF (fun Zi2 hF => ?_) (fun Zi2 hF => ?_)
  ·refine AWP.seq ?_
   obtain ⟨r27, ZBS, hF⟩ := bind_some hF
   obtain ⟨c29, ZlX, hF⟩ := bind_some hF
   refine AWP.cutN (fun T => ∃ r, WS r T ⟨[(0, .c (some (0, 9)) (.sl (l.map c_S))), (1, .c none (.sl (Zc5.map c_S))), (5, .ptr 5 0), (24, .c none (.v (.bool c29)))], [(5, [(none, .v (.int .i64 t.fOp)), (none, .v (.string t.fName)), (none, .sl (t.fBound.fArgs.map Zi.cells)), (none, .sl (t.fKids.map Za.cells))])]⟩) ?_ (fun T hw => ?_)
   ·refine ns ?_
    refine e3 ?_
    refine st ?_
    refine cm (Zk.weak (rn []) (Zd2 Zc5 t.fName _ ZBS) rfl (WS.mk (tc (tc Zb)) Zc)) ?_
    refine st ?_
    refine Zl true (fun ZkZ => ?_) (fun ZkZ => ?_)
    ·have ZlX := ift ZkZ ZlX
     obtain ⟨r28, Zxf, ZlX⟩ := bind_some ZlX
     (conv => whnf)
     refine st ?_
     refine Exists.intro [0] (Exists.intro [] (Exists.intro [] ?_))
     refine st ?_
     refine cm (Zk.weak (rn []) (Zd2 l t.fName _ Zxf) rfl (WS.mk (tc (tc Zb)) Zc)) ?_
     refine st ?_
     obtain rfl := Zh ZlX
     refine st ?_
     exact Exists.intro (rn [(0, 0)]) (WS.mk (Zd (Zc9 rfl (WE.refl _)) (tc (tp (Zd (Zp (web ZkZ)) Zb)))) (Ze rfl (cc (cc (cc (cc Zg)))) Zc))
    ·have ZlX := ife ZkZ ZlX
     (conv => whnf)
     obtain rfl := Zh ZlX
     refine st ?_
     exact Exists.intro (rn [(0, 0)]) (WS.mk (Zd (Zc9 rfl (WE.refl _)) (tc (tp (Zd (Zp (web ZkZ)) Zb)))) (Ze rfl (cc (cc (cc (cc Zg)))) Zc))
   obtain ⟨r0, hw⟩ := hw
   (conv => whnf)
   refine AWP.weak r0 hw ?_
   refine nw ?_
   refine Zj hF (fun ZtQ hF => ?_) (fun ZtQ hF => ?_)
   ·obtain ⟨ZBv, hF⟩ := ZD hF
    refine ns ?_
    refine Exists.intro _ (And.intro (ZcZ (f := c_S) (lc Zn) (Zbb (f := c_S))) ?_)
    refine sa (fun l => Zc0 l (fun x => ZhT x)) ZBv ?_
    refine Exists.intro _ (And.intro (WE.refl _) ?_)
    rw [← List.map_append]
    refine st ?_
    refine AWP.weak (rn [(29, 0)]) ?_ (Zfk (l ++ ([t.fName])) Zc5 t _ hF)
    exact (WS.mk (Zd (Zc9 rfl (WE.refl _)) (tc (tp Zb))) (Ze rfl (cc (cc (cc (cc Zg)))) Zc))
   ·refine nw ?_
    refine AWP.weak (rn [(0, 0)]) ?_ (Zfk l Zc5 t _ hF)
    exact (WS.mk (Zd (Zc9 rfl (WE.refl _)) (tc (tp Zb))) (Ze rfl (cc (cc (cc (cc Zg)))) Zc))
  ·refine AWP.seq ?_
   refine ns ?_
   refine nw ?_
   refine Zj hF (fun Zn0 hF => ?_) (fun Zn0 hF => ?_)
   ·obtain ⟨r36, ZDO, hF⟩ := bind_some hF
    obtain ⟨ZDt, hF⟩ := ZD hF
    refine nn ?_
    refine Or.inl (Or.inr (Exists.intro [2, 3, 4] (Exists.intro [[34, 35, 36], [35, 36], [36]] (Exists.intro [5] (Exists.intro [5, 34, 35, 36] (Exists.intro [34, 35, 36] (Exists.intro [0, 1, 5, 6] (And.intro (by decide +kernel) ?_))))))))
    refine dp ?_
    refine dp ?_
    refine de (ZcZ (f := c_S) (lc Zn) (Zbb (f := c_S))) ?_
    refine st ?_
    refine e3 ?_
    refine st ?_
    refine cm (Zk.weak (rn []) (ZjH Zc5 _ ZDO) rfl (WS.mk (tc Zb) Zc)) ?_
    refine st ?_
    refine sa (fun l => Zc0 l (fun x => ZhT x)) ZDt ?_
    refine Exists.intro _ (And.intro (WE.refl _) ?_)
    rw [← List.map_append]
    refine st ?_
    refine AWP.weak (rn [(0, 0)]) ?_ (Zfk l (r36 ++ ([t.fName])) t _ hF)
    exact (WS.mk (Zd (Zc9 rfl (WE.refl _)) (tc (tp Zb))) (Ze rfl (cc (cc (cc (cc Zg)))) Zc))
   ·refine nw ?_
    refine AWP.weak (rn [(0, 0)]) ?_ (Zfk l Zc5 t _ hF)
    exact (WS.mk (Zd (Zc9 rfl (WE.refl _)) (tc (tp Zb))) (Ze rfl (cc (cc (cc (cc Zg)))) Zc))
 ·intro types_free_l2' ZgU l_0 ZdG t r hF
  unfold Zbw.M
  refine AWP.seq ?_
  refine AWP.seq ?_
  refine ns ?_
  intro hlen12
  (try rw [List.length_map] at hlen12)
  (try rw [List.length_map])
  refine st ?_
  refine AWP.block ?_
  refine AWP.loop ?_
  refine AWL.weak (rn [(0, 0)]) ?_ (ZgU l_0 ZdG t 0 t.fKids _ hF ([]) rfl rfl hlen12)
  exact (WS.mk (Zd (Zc9 rfl (WE.refl _)) (tc (tc (tc (tc Zb))))) Zc)
 ·intro types_free' types_free_l2' ZqV ZgU l_0 ZdG t Zl5 ZjZ r hF
  unfold Zbt.M
  intro ZmV ZvX ZvM hlen12
  refine AWL.step ?_
  refine AWP.seq ?_
  refine ns ?_
  refine AWP.seq ?_
  refine nw ?_
  refine ZK ZvX ZvM (fun x22 Zuv ZuI Zwd ZAJ => ?_) (fun ZuI => ?_)
  ·subst ZuI
   refine nw ?_
   refine AWP.seq ?_
   refine AWP.block ?_
   refine AWP.seq ?_
   refine nn ?_
   refine sr (Zag (f := Za.cells) (Za.cells_eq x22) Zwd) ?_
   refine st ?_
   obtain ⟨r25, ZxW, hF⟩ := bind_some hF
   refine ns ?_
   refine e3 ?_
   refine st ?_
   refine cm (Zk.weak (rn [(0, 0)]) (ZqV l_0 ZdG x22 _ ZxW) rfl (WS.mk (Zd (Zc9 rfl (WE.refl _)) (tc (Zd (Zq (lc (lc (lc (lc Zn))))) Zb))) Zc)) ?_
   refine st ?_
   refine ns ?_
   refine AWL.weak (rn [(48, 0)]) ?_ (ZgU r25 ZdG t (Zl5 + 1) Zuv _ hF (ZmV ++ [x22]) (by rw [ZvX]; simp) (by rw [ZvM]; simp) hlen12)
   exact (WS.mk (Zd (Zc9 rfl (WE.refl _)) (tc (tc (tc (Zd (Zp (Zc3 (ZX hlen12 ZAJ))) Zb))))) Zc)
  ·subst ZuI
   refine nw ?_
   refine AWP.seq ?_
   refine ns ?_
   obtain rfl := Zh hF
   refine ns ?_
   refine Exists.intro [] ?_
   refine st ?_
   exact Exists.intro (rn [(0, 0)]) (WS.mk (Zd (Zc9 rfl (WE.refl _)) Zb) Zc)
theorem Zi5 : ∀ (l : (List ByteArray)) (Zc5 : (List ByteArray)) (t : Za), ∀ r, ZcA l Zc5 t = some r → ZcA.M l Zc5 t r := ZpY.1

def Zel (t : Za) : Option ((List ByteArray)) :=
 Zbm t >>= fun r3 =>
 if (r3 != 0) = true then
 some ([] : List ByteArray)
 else
 ZcA ([] : List ByteArray) ([] : List ByteArray) t >>= fun r5 =>
 some r5
def Zel.M (t : Za) (r : (List ByteArray)) : Prop :=
 Zk Tryz.prog 105 [.agg [.v (.int .i64 t.fOp), .v (.string t.fName), .sl (t.fBound.fArgs.map Zi.cells), .sl (t.fKids.map Za.cells)]] [] (fun d b => d = .c (some (0, 9)) (.sl (r.map c_S)) ∧ b = [])
theorem Zma (t : Za) (r : (List ByteArray)) (hF : Zel t = some r) : Zel.M t r := by
 unfold Zel at hF
 unfold Zel.M
 refine en Tryz.func105 ?_
 refine AWP.seq ?_
 refine ns ?_
 refine AWP.seq ?_
 refine AWP.seq ?_
 obtain ⟨r3, hr3, hF⟩ := bind_some hF
 refine ns ?_
 refine e3 ?_
 refine st ?_
 refine cm (Zk.weak (rn []) (Zdr t _ hr3) rfl (WS.mk (Zd (Zq (lc (lc (lc (lc Zn))))) Zb) Zc)) ?_
 refine st ?_
 refine nw ?_
 refine Zj hF (fun hc4 hF => ?_) (fun hc4 hF => ?_)
 ·refine AWP.seq ?_
  refine ns ?_
  obtain rfl := Zh hF
  refine ns ?_
  refine Exists.intro [] ?_
  refine st ?_
  exact wx (WS.mk (Zd Zmh Zb) Zc)
 ·refine nw ?_
  refine AWP.seq ?_
  obtain ⟨r5, hr5, hF⟩ := bind_some hF
  refine ns ?_
  refine e3 ?_
  refine st ?_
  refine cm (Zk.weak (rn []) (Zi5 ([] : List ByteArray) ([] : List ByteArray) t _ hr5) rfl (WS.mk (Zd Zmh (Zd (Zp WE.nil) (Zd (Zq (lc (lc (lc (lc Zn))))) Zb))) Zc)) ?_
  refine st ?_
  obtain rfl := Zh hF
  refine ns ?_
  refine Exists.intro [] ?_
  refine st ?_
  exact Exists.intro (rn [(7, 0)]) (WS.mk (Zd (Zc9 rfl (WE.refl _)) Zb) Zc)

def Zan (v : ByteArray) (r1 : ((List ByteArray))) (ZmE : Nat) (s : Zr) (ZfQ : (List ByteArray)) : Option (Bool) :=
 (match ZfQ with
 | x26 :: ZAL =>
 if (x26.toList == v.toList) = true then
 some true
 else
 Zdf s.fat 0 x26 >>= fun r31 =>
 (if r31.2 = true then (ixI s.flist r31.1) >>= fun x32 =>
 Zel x32.fType >>= fun r33 =>
 Zae r33 v >>= fun r34 =>
 some r34 else some false) >>= fun c35 =>
 if c35 = true then
 some true
 else
 Zan v r1 (ZmE + 1) s ZAL
 | [] =>
 some false)
 partial_fixpoint
def Zan.M (v : ByteArray) (r1 : ((List ByteArray))) (ZmE : Nat) (s : Zr) (ZfQ : (List ByteArray)) (r : Bool) : Prop :=
 ∀ Zm3 : List ByteArray, r1 = Zm3 ++ ZfQ → ZmE = Zm3.length → r1.length ≤ maxLen → AWL Tryz.prog 45 (Code.sub (Zs Tryz.f80) [1, 0, 1, 0, 0]) (Code.cont Tryz.prog 45 (Zs Tryz.f80) [1, 0, 1, 0] (Zce tab Tryz.f80.results (Zch (.c none (.v (.bool r))) [(1000, [(none, .rs 1001 s.flist.length), (none, .rf 1002)]), (1001, [(none, .ob 90 (s.flist.map Zf.cells))]), (1002, [(none, .ob 109 (s.fat.map (Zcj c_S Zba)))])]))) ⟨[(0, .ptr 1000 0), (1, .c none (.v (.string v))), (12, .c (some (12, 9)) (.sl (r1.map c_S))), (13, .c none (.v (.int .i64 ((r1.length : Nat) : Int)))), (14, .c none (.v (.int .i64 ((ZmE : Nat) : Int))))], [(1000, [(none, .rs 1001 s.flist.length), (none, .rf 1002)]), (1001, [(none, .ob 90 (s.flist.map Zf.cells))]), (1002, [(none, .ob 109 (s.fat.map (Zcj c_S Zba)))])]⟩
theorem Ziw (v : ByteArray) (r1 : ((List ByteArray))) (ZmE : Nat) (s : Zr) (ZfQ : (List ByteArray)) : ∀ r, Zan v r1 ZmE s ZfQ = some r → Zan.M v r1 ZmE s ZfQ r := by
 refine Zan.partial_correctness v r1 s (fun ZmE ZfQ r => Zan.M v r1 ZmE s ZfQ r) ?_ ZmE ZfQ
 intro unify_solver_occurs_l1' Zfg ZmE ZfQ r hF
 have Zix := fun (_v : ByteArray) (_r1 : ((List ByteArray))) (ZmE : Nat) (_s : Zr) (ZfQ : (List ByteArray)) => Zfg ZmE ZfQ
 clear Zfg
 unfold Zan.M
 intro Zm3 Zvu Zu9 hlen2
 refine AWL.step ?_
 refine AWP.seq ?_
 refine ns ?_
 refine AWP.seq ?_
 refine nw ?_
 refine ZK Zvu Zu9 (fun x26 ZAL ZAo ZEK ZDC => ?_) (fun ZAo => ?_)
 ·subst ZAo
  refine nw ?_
  refine AWP.seq ?_
  refine AWP.block ?_
  refine AWP.seq ?_
  refine nn ?_
  refine sr (Zag (f := c_S) rfl ZEK) ?_
  refine st ?_
  refine AWP.seq ?_
  refine AWP.seq ?_
  refine ns ?_
  refine nw ?_
  refine Zj hF (fun ZkZ hF => ?_) (fun ZkZ hF => ?_)
  ·refine AWP.seq ?_
   refine ns ?_
   obtain rfl := Zh hF
   refine ns ?_
   refine Exists.intro [(1000, 1000), (1001, 1001), (1002, 1002)] ?_
   refine st ?_
   exact wx (WS.mk (tc Zb) (Ze rfl (Zd3 (ZV (by first | exact rfl | simp only [List.length_set])) (cc Zg)) (Ze rfl (cc Zg) (Ze rfl (cc Zg) Zc))))
  ·refine nw ?_
   refine AWP.seq ?_
   obtain ⟨r31, ZEq, hF⟩ := bind_some hF
   refine ns ?_
   refine ZeP (m := s.fat) (k := x26) Zeh (ev := Zba) ZEq rfl (fun x => ZiH x) rfl rfl (lc Zn) ?_
   refine st ?_
   refine AWP.seq ?_
   obtain ⟨c35, ZlM, hF⟩ := bind_some hF
   refine AWP.cutN (fun T => ∃ r, WS r T ⟨[(0, .ptr 1000 0), (1, .c none (.v (.string v))), (12, .c (some (12, 9)) (.sl (r1.map c_S))), (13, .c none (.v (.int .i64 ((r1.length : Nat) : Int)))), (14, .c none (.v (.int .i64 ((ZmE : Nat) : Int)))), (43, .c none (.v (.bool c35)))], [(1000, [(none, .rs 1001 s.flist.length), (none, .rf 1002)]), (1001, [(none, .ob 90 (s.flist.map Zf.cells))]), (1002, [(none, .ob 109 (s.fat.map (Zcj c_S Zba)))])]⟩) ?_ (fun T hw => ?_)
   ·refine ns ?_
    refine Zl true (fun Zjf => ?_) (fun Zjf => ?_)
    ·have ZlM := ift Zjf ZlM
     obtain ⟨x32, ZzP, Zzi, ZlM⟩ := Zeo ZlM
     obtain ⟨r33, Zz7, ZlM⟩ := bind_some ZlM
     obtain ⟨r34, ZAK, ZlM⟩ := bind_some ZlM
     (conv => whnf)
     refine st ?_
     refine And.intro (Zp0 ZzP Zzi) ?_
     refine st ?_
     refine sr (ZdC (f := Zf.cells) (Zf.cells_eq x32) Zzi) ?_
     refine st ?_
     refine e3 ?_
     refine st ?_
     refine cm (Zk.weak (rn []) (Zma x32.fType _ Zz7) rfl (WS.mk (Zd (Zq (lc (lc (lc (lc Zn))))) Zb) Zc)) ?_
     refine st ?_
     refine Exists.intro [40] (Exists.intro [] (Exists.intro [] ?_))
     refine st ?_
     refine cm (Zk.weak (rn []) (Zd2 r33 v _ ZAK) rfl (WS.mk (tc (tc Zb)) Zc)) ?_
     refine st ?_
     obtain rfl := Zh ZlM
     refine st ?_
     exact Exists.intro (rn [(12, 12)]) (WS.mk (tp (tc (Zd (Zc9 rfl (WE.refl _)) (tc (tc (Zd (Zp (web Zjf)) Zb)))))) (Ze rfl (Zd3 (ZV (by first | exact rfl | simp only [List.length_set])) (cc Zg)) (Ze rfl (cc Zg) (Ze rfl (cc Zg) Zc))))
    ·have ZlM := ife Zjf ZlM
     (conv => whnf)
     obtain rfl := Zh ZlM
     refine st ?_
     exact Exists.intro (rn [(12, 12)]) (WS.mk (tp (tc (Zd (Zc9 rfl (WE.refl _)) (tc (tc (Zd (Zp (web Zjf)) Zb)))))) (Ze rfl (Zd3 (ZV (by first | exact rfl | simp only [List.length_set])) (cc Zg)) (Ze rfl (cc Zg) (Ze rfl (cc Zg) Zc))))
   obtain ⟨r0, hw⟩ := hw
   (conv => whnf)
   refine AWP.weak r0 hw ?_
   refine nw ?_
   refine Zj hF (fun Zn5 hF => ?_) (fun Zn5 hF => ?_)
   ·refine AWP.seq ?_
    refine ns ?_
    obtain rfl := Zh hF
    refine ns ?_
    refine Exists.intro [(1000, 1000), (1001, 1001), (1002, 1002)] ?_
    refine st ?_
    exact wx (WS.mk (tc Zb) (Ze rfl (Zd3 (ZV (by first | exact rfl | simp only [List.length_set])) (cc Zg)) (Ze rfl (cc Zg) (Ze rfl (cc Zg) Zc))))
   ·refine nw ?_
    refine ns ?_
    refine AWL.weak (rn [(12, 12)]) ?_ (Zix v r1 (ZmE + 1) s ZAL _ hF (Zm3 ++ [x26]) (by rw [Zvu]; simp) (by rw [Zu9]; simp) hlen2)
    exact (WS.mk (tp (tc (Zd (Zc9 rfl (WE.refl _)) (tc (Zd (Zp (Zc3 (ZX hlen2 ZDC))) Zb))))) (Ze rfl (Zd3 (ZV (by first | exact rfl | simp only [List.length_set])) (cc Zg)) (Ze rfl (cc Zg) (Ze rfl (cc Zg) Zc))))
 ·subst ZAo
  refine nw ?_
  refine AWP.seq ?_
  refine ns ?_
  obtain rfl := Zh hF
  refine ns ?_
  refine Exists.intro [(1000, 1000), (1001, 1001), (1002, 1002)] ?_
  refine st ?_
  exact wx (WS.mk (tc Zb) (Ze rfl (Zd3 (ZV (by first | exact rfl | simp only [List.length_set])) (cc Zg)) (Ze rfl (cc Zg) (Ze rfl (cc Zg) Zc))))

def Zb9 (s : Zr) (v : ByteArray) (t : Za) : Option (Bool) :=
 Zel t >>= fun r1 =>
 Zan v r1 0 s r1
def Zb9.M (s : Zr) (v : ByteArray) (t : Za) (r : Bool) : Prop :=
 Zk Tryz.prog 80 [.ptr 1000 0, .c none (.v (.string v)), .agg [.v (.int .i64 t.fOp), .v (.string t.fName), .sl (t.fBound.fArgs.map Zi.cells), .sl (t.fKids.map Za.cells)]] [(1000, [(none, .rs 1001 s.flist.length), (none, .rf 1002)]), (1001, [(none, .ob 90 (s.flist.map Zf.cells))]), (1002, [(none, .ob 109 (s.fat.map (Zcj c_S Zba)))])] (fun d b => d = .c none (.v (.bool r)) ∧ b = [(1000, [(none, .rs 1001 s.flist.length), (none, .rf 1002)]), (1001, [(none, .ob 90 (s.flist.map Zf.cells))]), (1002, [(none, .ob 109 (s.fat.map (Zcj c_S Zba)))])])
theorem Zkd (s : Zr) (v : ByteArray) (t : Za) (r : Bool) (hF : Zb9 s v t = some r) : Zb9.M s v t r := by
 unfold Zb9 at hF
 unfold Zb9.M
 refine en Tryz.func80 ?_
 refine AWP.seq ?_
 refine ns ?_
 refine AWP.seq ?_
 refine AWP.seq ?_
 obtain ⟨r1, hr1, hF⟩ := bind_some hF
 refine ns ?_
 refine e3 ?_
 refine st ?_
 refine cm (Zk.weak (rn []) (Zma t _ hr1) rfl (WS.mk (Zd (Zq (lc (lc (lc (lc Zn))))) Zb) Zc)) ?_
 refine st ?_
 intro hlen2
 (try rw [List.length_map] at hlen2)
 (try rw [List.length_map])
 refine st ?_
 refine AWP.block ?_
 refine AWP.loop ?_
 refine AWL.weak (rn [(12, 12)]) ?_ (Ziw v r1 0 s r1 _ hF ([]) rfl rfl hlen2)
 exact (WS.mk (tp (tc (Zd (Zc9 rfl (WE.refl _)) (tc (tc Zb))))) (Ze rfl (Zd3 (ZV (by first | exact rfl | simp only [List.length_set])) (cc Zg)) (Ze rfl (cc Zg) (Ze rfl (cc Zg) Zc))))

mutual
def Zbv (sub : (List (ByteArray × Za))) (t : Za) : Option (Int × Int) :=
 Zdf sub (Za.mk 0 (ByteArray.mk #[]) (Zi.mk ([] : List Zi)) ([] : List Za)) t.fName >>= fun r7 =>
 if (r7.2 && (t.fOp == 1)) = true then
 Zca r7.1 >>= fun r12 =>
 ZbP r7.1 >>= fun r13 =>
 some (r12, r13)
 else
 Zdf sub (Za.mk 0 (ByteArray.mk #[]) (Zi.mk ([] : List Zi)) ([] : List Za)) t.fName >>= fun r16 =>
 if (r16.2 && (t.fOp == 4)) = true then
 none
 else
 Z3 0 0 t 0 sub t.fKids
 partial_fixpoint
def Z3 (Zdg : Int) (Zcc : Int) (t : Za) (ZmL : Nat) (sub : (List (ByteArray × Za))) (Zfn : (List Za)) : Option (Int × Int) :=
 (match Zfn with
 | x42 :: ZAa =>
 Zbv sub x42 >>= fun r45 =>
 Z3 (IntKind.i64.wrap (Zdg + r45.1)) (if r45.2 > Zcc then r45.2 else Zcc) t (ZmL + 1) sub ZAa
 | [] =>
 some (IntKind.i64.wrap (Zdg + 1), IntKind.i64.wrap (Zcc + 1)))
 partial_fixpoint
end
def Zbv.M (sub : (List (ByteArray × Za))) (t : Za) (r : Int × Int) : Prop :=
 Zk Tryz.prog 69 [.c none (.rf 1000), .agg [.v (.int .i64 t.fOp), .v (.string t.fName), .sl (t.fBound.fArgs.map Zi.cells), .sl (t.fKids.map Za.cells)]] [(1000, [(none, .ob 183 (sub.map (Zcj c_S Za.cells)))])] (fun d b => d = .tup [.c (.v (.int .i64 r.1)), .c (.v (.int .i64 r.2))] ∧ b = [(1000, [(none, .ob 183 (sub.map (Zcj c_S Za.cells)))])])
def Z3.M (Zdg : Int) (Zcc : Int) (t : Za) (ZmL : Nat) (sub : (List (ByteArray × Za))) (Zfn : (List Za)) (r : Int × Int) : Prop :=
 ∀ Znt : List Za, t.fKids = Znt ++ Zfn → ZmL = Znt.length → t.fKids.length ≤ maxLen → AWL Tryz.prog 72 (Code.sub (Zs Tryz.f69) [1, 1, 1, 0, 1, 0, 0]) (Code.cont Tryz.prog 72 (Zs Tryz.f69) [1, 1, 1, 0, 1, 0] (Zce tab Tryz.f69.results (Zch (.tup [.c (.v (.int .i64 r.1)), .c (.v (.int .i64 r.2))]) [(1000, [(none, .ob 183 (sub.map (Zcj c_S Za.cells)))])]))) ⟨[(0, .c none (.rf 1000)), (4, .c none (.v (.int .i64 Zdg))), (5, .c none (.v (.int .i64 Zcc))), (49, .c none (.sl (t.fKids.map Za.cells))), (50, .c none (.v (.int .i64 ((t.fKids.length : Nat) : Int)))), (51, .c none (.v (.int .i64 ((ZmL : Nat) : Int))))], [(1000, [(none, .ob 183 (sub.map (Zcj c_S Za.cells)))])]⟩
theorem Znc (sub : (List (ByteArray × Za))) : (∀ (t : Za), ∀ r, Zbv sub t = some r → Zbv.M sub t r) ∧ (∀ (Zdg : Int) (Zcc : Int) (t : Za) (ZmL : Nat) (Zfn : (List Za)), ∀ r, Z3 Zdg Zcc t ZmL sub Zfn = some r → Z3.M Zdg Zcc t ZmL sub Zfn r) := by
 refine Zbv.mutual_partial_correctness sub (fun t r => Zbv.M sub t r) (fun Zdg Zcc t ZmL Zfn r => Z3.M Zdg Zcc t ZmL sub Zfn r) ?_ ?_
 ·intro types_measure_l1' Zdp t r hF
  have Zfw := fun (Zdg : Int) (Zcc : Int) (t : Za) (ZmL : Nat) (_sub : (List (ByteArray × Za))) (Zfn : (List Za)) => Zdp Zdg Zcc t ZmL Zfn
  clear Zdp
  unfold Zbv.M
  refine en Tryz.func69 ?_
  refine AWP.seq ?_
  refine ns ?_
  refine AWP.seq ?_
  refine AWP.seq ?_
  obtain ⟨r7, hr7, hF⟩ := bind_some hF
  refine ns ?_
  refine ZeP (m := sub) (k := t.fName) Zeh (ev := Za.cells) hr7 (Za.cells_eq r7.1) (fun x => Za.cells_len x) rfl rfl (Zem (Za.cells_eq (Za.mk 0 (ByteArray.mk #[]) (Zi.mk ([] : List Zi)) ([] : List Za))) (lc (lc (ZbA WE.nil (ZbA WE.nil Zn))))) ?_
  refine st ?_
  refine AWP.seq ?_
  refine AWP.cutN (fun T => ∃ r, WS r T ⟨[(0, .c none (.rf 1000)), (3, .ptr 3 0), (4, .c none (.v (.int .i64 0))), (5, .c none (.v (.int .i64 0))), (6, .ptr 6 0), (26, .c none (.v (.bool (r7.2 && (t.fOp == 1)))))], [(3, [(none, .v (.int .i64 t.fOp)), (none, .v (.string t.fName)), (none, .sl (t.fBound.fArgs.map Zi.cells)), (none, .sl (t.fKids.map Za.cells))]), (6, [(none, .v (.int .i64 r7.1.fOp)), (none, .v (.string r7.1.fName)), (none, .sl (r7.1.fBound.fArgs.map Zi.cells)), (none, .sl (r7.1.fKids.map Za.cells))]), (1000, [(none, .ob 183 (sub.map (Zcj c_S Za.cells)))])]⟩) ?_ (fun T hw => ?_)
  ·refine ns ?_
   refine Zl true (fun hc8 => ?_) (fun hc8 => ?_)
   ·(conv => whnf)
    refine st ?_
    exact wx (WS.mk (tc (tp (tc (tc (tp (Zd (Zp (web hc8)) Zb)))))) (Ze rfl (cc (cc (cc (cc Zg)))) (Ze rfl (cc (cc (cc (cc Zg)))) (Ze rfl (cc Zg) Zc))))
   ·(conv => whnf)
    refine st ?_
    exact wx (WS.mk (tc (tp (tc (tc (tp (Zd (Zp (web hc8)) Zb)))))) (Ze rfl (cc (cc (cc (cc Zg)))) (Ze rfl (cc (cc (cc (cc Zg)))) (Ze rfl (cc Zg) Zc))))
  obtain ⟨r0, hw⟩ := hw
  (conv => whnf)
  refine AWP.weak r0 hw ?_
  refine nw ?_
  refine Zj hF (fun hc9 hF => ?_) (fun hc9 hF => ?_)
  ·refine AWP.seq ?_
   obtain ⟨r12, Zsa, hF⟩ := bind_some hF
   obtain ⟨r13, ZDq, hF⟩ := bind_some hF
   refine nn ?_
   refine Or.inl (Or.inr (Exists.intro [2] (Exists.intro [[29]] (Exists.intro [6] (Exists.intro [6, 29] (Exists.intro [29] (Exists.intro [0, 1, 3, 4, 5] (And.intro (by decide +kernel) ?_))))))))
   refine dp ?_
   refine st ?_
   refine e3 ?_
   refine st ?_
   refine cm (Zk.weak (rn []) (Zl9 r7.1 _ Zsa) rfl (WS.mk (Zd (Zq (lc (lc (lc (lc Zn))))) Zb) Zc)) ?_
   refine st ?_
   refine e3 ?_
   refine st ?_
   refine cm (Zk.weak (rn []) (Zk8 r7.1 _ ZDq) rfl (WS.mk (Zd (Zq (lc (lc (lc (lc Zn))))) Zb) Zc)) ?_
   refine st ?_
   obtain rfl := Zh hF
   refine ns ?_
   refine Exists.intro [(1000, 1000)] ?_
   refine st ?_
   exact wx (WS.mk (Zd (Zcg (ZbV (WE.refl _) (ZbV (WE.refl _) Zck))) Zb) (Ze rfl (cc Zg) Zc))
  ·refine nw ?_
   refine AWP.seq ?_
   refine AWP.seq ?_
   obtain ⟨r16, ZyL, hF⟩ := bind_some hF
   refine ns ?_
   refine ZeP (m := sub) (k := t.fName) Zeh (ev := Za.cells) ZyL (Za.cells_eq r16.1) (fun x => Za.cells_len x) rfl rfl (Zem (Za.cells_eq (Za.mk 0 (ByteArray.mk #[]) (Zi.mk ([] : List Zi)) ([] : List Za))) (lc (lc (ZbA WE.nil (ZbA WE.nil Zn))))) ?_
   refine st ?_
   refine AWP.seq ?_
   refine AWP.cutN (fun T => ∃ r, WS r T ⟨[(0, .c none (.rf 1000)), (3, .ptr 3 0), (4, .c none (.v (.int .i64 0))), (5, .c none (.v (.int .i64 0))), (43, .c none (.v (.bool (r16.2 && (t.fOp == 4)))))], [(3, [(none, .v (.int .i64 t.fOp)), (none, .v (.string t.fName)), (none, .sl (t.fBound.fArgs.map Zi.cells)), (none, .sl (t.fKids.map Za.cells))]), (1000, [(none, .ob 183 (sub.map (Zcj c_S Za.cells)))])]⟩) ?_ (fun T hw => ?_)
   ·refine ns ?_
    refine Zl true (fun Zdd => ?_) (fun Zdd => ?_)
    ·(conv => whnf)
     refine st ?_
     exact wx (WS.mk (tc (tp (tc (tc (Zd (Zp (web Zdd)) Zb))))) (Ze rfl (cc (cc (cc (cc Zg)))) (Ze rfl (cc Zg) Zc)))
    ·(conv => whnf)
     refine st ?_
     exact wx (WS.mk (tc (tp (tc (tc (Zd (Zp (web Zdd)) Zb))))) (Ze rfl (cc (cc (cc (cc Zg)))) (Ze rfl (cc Zg) Zc)))
   obtain ⟨r0, hw⟩ := hw
   (conv => whnf)
   refine AWP.weak r0 hw ?_
   refine nw ?_
   refine Zj hF (fun ZiX hF => ?_) (fun ZiX hF => ?_)
   ·cases hF
   ·refine nw ?_
    refine AWP.seq ?_
    refine AWP.seq ?_
    refine ns ?_
    intro hlen32
    (try rw [List.length_map] at hlen32)
    (try rw [List.length_map])
    refine st ?_
    refine AWP.block ?_
    refine AWP.loop ?_
    refine AWL.weak (rn []) ?_ (Zfw 0 0 t 0 sub t.fKids _ hF ([]) rfl rfl hlen32)
    exact (WS.mk (tc (tc (tc (tc (tc (tc Zb)))))) (Ze rfl (cc Zg) Zc))
 ·intro types_measure' types_measure_l1' ZiN Zdp Zdg Zcc t ZmL Zfn r hF
  have ZnV := fun (_sub : (List (ByteArray × Za))) (t : Za) => ZiN t
  clear ZiN
  have Zfw := fun (Zdg : Int) (Zcc : Int) (t : Za) (ZmL : Nat) (_sub : (List (ByteArray × Za))) (Zfn : (List Za)) => Zdp Zdg Zcc t ZmL Zfn
  clear Zdp
  unfold Z3.M
  intro Znt Zvk ZvV hlen32
  refine AWL.step ?_
  refine AWP.seq ?_
  refine ns ?_
  refine AWP.seq ?_
  refine nw ?_
  refine ZK Zvk ZvV (fun x42 ZAa ZAf ZEx ZDW => ?_) (fun ZAf => ?_)
  ·subst ZAf
   refine nw ?_
   refine AWP.seq ?_
   refine AWP.block ?_
   refine AWP.seq ?_
   refine nn ?_
   refine sr (Zag (f := Za.cells) (Za.cells_eq x42) ZEx) ?_
   refine st ?_
   refine AWP.seq ?_
   obtain ⟨r45, ZEr, hF⟩ := bind_some hF
   refine ns ?_
   refine Exists.intro [] (Exists.intro [(1000, 1000)] (Exists.intro [] ?_))
   refine st ?_
   refine cm (Zk.weak (rn []) (ZnV sub x42 _ ZEr) rfl (WS.mk (tc (Zd (Zq (lc (lc (lc (lc Zn))))) Zb)) (Ze rfl (cc Zg) Zc))) ?_
   refine st ?_
   refine ns ?_
   refine ns ?_
   refine AWL.weak (rn []) ?_ (Zfw (IntKind.i64.wrap (Zdg + r45.1)) (if r45.2 > Zcc then r45.2 else Zcc) t (ZmL + 1) sub ZAa _ hF (Znt ++ [x42]) (by rw [Zvk]; simp) (by rw [ZvV]; simp) hlen32)
   exact (WS.mk (tc (tc (tc (tc (tc (Zd (Zp (Zc3 (ZX hlen32 ZDW))) Zb)))))) (Ze rfl (cc Zg) Zc))
  ·subst ZAf
   refine nw ?_
   refine AWP.seq ?_
   refine ns ?_
   obtain rfl := Zh hF
   refine ns ?_
   refine Exists.intro [(1000, 1000)] ?_
   refine st ?_
   exact wx (WS.mk (Zd (Zcg (ZbV (WE.refl _) (ZbV (WE.refl _) Zck))) Zb) (Ze rfl (cc Zg) Zc))
theorem Zi9 : ∀ (sub : (List (ByteArray × Za))) (t : Za), ∀ r, Zbv sub t = some r → Zbv.M sub t r := fun sub t => (Znc sub).1 t

def Zc1 (ZdW : (List ByteArray)) (r77 : ((List ByteArray))) (ZlZ : Nat) (t : Za) (sub : (List (ByteArray × Za))) (ZfR : (List ByteArray)) : Option (Za) :=
 (match ZfR with
 | x92 :: ZyE =>
 Zdf sub (Za.mk 0 (ByteArray.mk #[]) (Zi.mk ([] : List Zi)) ([] : List Za)) x92 >>= fun r95 =>
 if r95.2 = true then
 ZcA ZdW ([] : List ByteArray) r95.1 >>= fun r97 =>
 Zc1 r97 r77 (ZlZ + 1) t sub ZyE
 else
 Zc1 ZdW r77 (ZlZ + 1) t sub ZyE
 | [] =>
 none)
 partial_fixpoint
def Zc1.M (ZdW : (List ByteArray)) (r77 : ((List ByteArray))) (ZlZ : Nat) (t : Za) (sub : (List (ByteArray × Za))) (ZfR : (List ByteArray)) (r : Za) : Prop :=
 ∀ Zld : List ByteArray, r77 = Zld ++ ZfR → ZlZ = Zld.length → r77.length ≤ maxLen → AWL Tryz.prog 98 (Code.sub (Zs Tryz.f70) [1, 1, 0, 1, 0, 1, 0, 1, 0, 0]) (Code.cont Tryz.prog 98 (Zs Tryz.f70) [1, 1, 0, 1, 0, 1, 0, 1, 0] (Zce tab Tryz.f70.results (Zch (.agg [.v (.int .i64 r.fOp), .v (.string r.fName), .sl (r.fBound.fArgs.map Zi.cells), .sl (r.fKids.map Za.cells)]) [(1000, [(none, .ob 183 (sub.map (Zcj c_S Za.cells)))])]))) ⟨[(0, .c none (.rf 1000)), (3, .ptr 3 0), (4, .ptr 4 0), (7, .c (some (7, 9)) (.sl (ZdW.map c_S))), (34, .c (some (34, 9)) (.sl (r77.map c_S))), (35, .c none (.v (.int .i64 ((r77.length : Nat) : Int)))), (36, .c none (.v (.int .i64 ((ZlZ : Nat) : Int))))], [(3, [(none, .v (.int .i64 t.fOp)), (none, .v (.string t.fName)), (none, .sl (t.fBound.fArgs.map Zi.cells)), (none, .sl (t.fKids.map Za.cells))]), (4, [(none, .v (.int .i64 0)), (none, .v (.string (ByteArray.mk #[]))), (none, .nils), (none, .nils)]), (1000, [(none, .ob 183 (sub.map (Zcj c_S Za.cells)))])]⟩
theorem Znq (ZdW : (List ByteArray)) (r77 : ((List ByteArray))) (ZlZ : Nat) (t : Za) (sub : (List (ByteArray × Za))) (ZfR : (List ByteArray)) : ∀ r, Zc1 ZdW r77 ZlZ t sub ZfR = some r → Zc1.M ZdW r77 ZlZ t sub ZfR r := by
 refine Zc1.partial_correctness r77 t sub (fun ZdW ZlZ ZfR r => Zc1.M ZdW r77 ZlZ t sub ZfR r) ?_ ZdW ZlZ ZfR
 intro types_subst_l1' Zib ZdW ZlZ ZfR r hF
 have ZiC := fun (ZdW : (List ByteArray)) (_r77 : ((List ByteArray))) (ZlZ : Nat) (_t : Za) (_sub : (List (ByteArray × Za))) (ZfR : (List ByteArray)) => Zib ZdW ZlZ ZfR
 clear Zib
 unfold Zc1.M
 intro Zld ZrD ZrZ hlen78
 refine AWL.step ?_
 refine AWP.seq ?_
 refine ns ?_
 refine AWP.seq ?_
 refine nw ?_
 refine ZK ZrD ZrZ (fun x92 ZyE ZBd ZDG ZCN => ?_) (fun ZBd => ?_)
 ·subst ZBd
  refine nw ?_
  refine AWP.seq ?_
  refine AWP.block ?_
  refine AWP.seq ?_
  refine nn ?_
  refine sr (Zag (f := c_S) rfl ZDG) ?_
  refine st ?_
  refine AWP.seq ?_
  obtain ⟨r95, ZEi, hF⟩ := bind_some hF
  refine ns ?_
  refine ZeP (m := sub) (k := x92) Zeh (ev := Za.cells) ZEi (Za.cells_eq r95.1) (fun x => Za.cells_len x) rfl rfl (Zem (Za.cells_eq (Za.mk 0 (ByteArray.mk #[]) (Zi.mk ([] : List Zi)) ([] : List Za))) (lc (lc (ZbA WE.nil (ZbA WE.nil Zn))))) ?_
  refine st ?_
  refine AWP.seq ?_
  refine ns ?_
  refine nw ?_
  refine Zj hF (fun Zuh hF => ?_) (fun Zuh hF => ?_)
  ·obtain ⟨r97, ZEL, hF⟩ := bind_some hF
   refine ns ?_
   refine e3 ?_
   refine st ?_
   refine cm (Zk.weak (rn [(7, 0)]) (Zi5 ZdW ([] : List ByteArray) r95.1 _ ZEL) rfl (WS.mk (Zd (Zc9 rfl (WE.refl _)) (Zd (Zp WE.nil) (Zd (Zq (lc (lc (lc (lc Zn))))) Zb))) Zc)) ?_
   refine st ?_
   refine ns ?_
   refine AWL.weak (rn [(34, 34), (49, 7)]) ?_ (ZiC r97 r77 (ZlZ + 1) t sub ZyE _ hF (Zld ++ [x92]) (by rw [ZrD]; simp) (by rw [ZrZ]; simp) hlen78)
   exact (WS.mk (tc (tp (tp (Zd (Zc9 rfl (WE.refl _)) (Zd (Zc9 rfl (WE.refl _)) (tc (Zd (Zp (Zc3 (ZX hlen78 ZCN))) Zb))))))) (Ze rfl (cc (cc (cc (cc Zg)))) (Ze rfl (cc (cc (cc (cc Zg)))) (Ze rfl (cc Zg) Zc))))
  ·refine nw ?_
   refine ns ?_
   refine AWL.weak (rn [(7, 7), (34, 34)]) ?_ (ZiC ZdW r77 (ZlZ + 1) t sub ZyE _ hF (Zld ++ [x92]) (by rw [ZrD]; simp) (by rw [ZrZ]; simp) hlen78)
   exact (WS.mk (tc (tp (tp (Zd (Zc9 rfl (WE.refl _)) (Zd (Zc9 rfl (WE.refl _)) (tc (Zd (Zp (Zc3 (ZX hlen78 ZCN))) Zb))))))) (Ze rfl (cc (cc (cc (cc Zg)))) (Ze rfl (cc (cc (cc (cc Zg)))) (Ze rfl (cc Zg) Zc))))
 ·subst ZBd
  refine nw ?_
  refine AWP.seq ?_
  cases hF

mutual
def Zci (sub : (List (ByteArray × Za))) (t : Za) : Option (Za) :=
 if (t.fOp == 1) = true then
 Zdf sub (Za.mk 0 (ByteArray.mk #[]) (Zi.mk ([] : List Zi)) ([] : List Za)) t.fName >>= fun r12 =>
 if r12.2 = true then
 ZbS r12.1 >>= fun r14 =>
 some r14
 else
 some t
 else
 if (t.fOp == 4) = true then
 ZcA ([] : List ByteArray) ([] : List ByteArray) t >>= fun r77 =>
 Zc1 ([]) r77 0 t sub r77
 else
 ZbK t 0 ([]) sub t.fKids
 partial_fixpoint
def ZbK (t : Za) (ZmK : Nat) (ZhE : (List Za)) (sub : (List (ByteArray × Za))) (Zfh : (List Za)) : Option (Za) :=
 (match Zfh with
 | Zxl :: ZxC =>
 Zci sub Zxl >>= fun Zw7 =>
 Zac ((ZhE.length + ([Zw7]).length) * 72 ≤ 140737488355328) >>= fun _ =>
 ZbK t (ZmK + 1) (ZhE ++ ([Zw7])) sub ZxC
 | [] =>
 some (Za.mk t.fOp t.fName t.fBound ZhE))
 partial_fixpoint
end
def Zci.M (sub : (List (ByteArray × Za))) (t : Za) (r : Za) : Prop :=
 Zk Tryz.prog 70 [.c none (.rf 1000), .agg [.v (.int .i64 t.fOp), .v (.string t.fName), .sl (t.fBound.fArgs.map Zi.cells), .sl (t.fKids.map Za.cells)]] [(1000, [(none, .ob 183 (sub.map (Zcj c_S Za.cells)))])] (fun d b => d = .agg [.v (.int .i64 r.fOp), .v (.string r.fName), .sl (r.fBound.fArgs.map Zi.cells), .sl (r.fKids.map Za.cells)] ∧ b = [(1000, [(none, .ob 183 (sub.map (Zcj c_S Za.cells)))])])
def ZbK.M (t : Za) (ZmK : Nat) (ZhE : (List Za)) (sub : (List (ByteArray × Za))) (Zfh : (List Za)) (r : Za) : Prop :=
 ∀ Zng : List Za, t.fKids = Zng ++ Zfh → ZmK = Zng.length → t.fKids.length ≤ maxLen → AWL Tryz.prog 98 (Code.sub (Zs Tryz.f70) [1, 1, 1, 1, 1, 0, 1, 0, 0]) (Code.cont Tryz.prog 98 (Zs Tryz.f70) [1, 1, 1, 1, 1, 0, 1, 0] (Zce tab Tryz.f70.results (Zch (.agg [.v (.int .i64 r.fOp), .v (.string r.fName), .sl (r.fBound.fArgs.map Zi.cells), .sl (r.fKids.map Za.cells)]) [(1000, [(none, .ob 183 (sub.map (Zcj c_S Za.cells)))])]))) ⟨[(0, .c none (.rf 1000)), (3, .ptr 3 0), (4, .ptr 4 0), (82, .c none (.sl (t.fKids.map Za.cells))), (83, .c none (.v (.int .i64 ((t.fKids.length : Nat) : Int)))), (84, .c none (.v (.int .i64 ((ZmK : Nat) : Int))))], [(3, [(none, .v (.int .i64 t.fOp)), (none, .v (.string t.fName)), (none, .sl (t.fBound.fArgs.map Zi.cells)), ((some (4153, 28)), .sl (ZhE.map Za.cells))]), (4, [(none, .v (.int .i64 0)), (none, .v (.string (ByteArray.mk #[]))), (none, .nils), (none, .nils)]), (1000, [(none, .ob 183 (sub.map (Zcj c_S Za.cells)))])]⟩
theorem ZoM (sub : (List (ByteArray × Za))) : (∀ (t : Za), ∀ r, Zci sub t = some r → Zci.M sub t r) ∧ (∀ (t : Za) (ZmK : Nat) (ZhE : (List Za)) (Zfh : (List Za)), ∀ r, ZbK t ZmK ZhE sub Zfh = some r → ZbK.M t ZmK ZhE sub Zfh r) := by
 refine Zci.mutual_partial_correctness sub (fun t r => Zci.M sub t r) (fun t ZmK ZhE Zfh r => ZbK.M t ZmK ZhE sub Zfh r) ?_ ?_
 ·intro types_subst_l2' ZdR t r hF
  have Zgr := fun (t : Za) (ZmK : Nat) (ZhE : (List Za)) (_sub : (List (ByteArray × Za))) (Zfh : (List Za)) => ZdR t ZmK ZhE Zfh
  clear ZdR
  unfold Zci.M
  refine en Tryz.func70 ?_
  refine AWP.seq ?_
  refine ns ?_
  refine AWP.seq ?_
  refine AWP.seq ?_
  refine ns ?_
  refine nw ?_
  refine Zj hF (fun hc8 hF => ?_) (fun hc8 hF => ?_)
  ·refine AWP.seq ?_
   refine AWP.seq ?_
   obtain ⟨r12, Zsa, hF⟩ := bind_some hF
   refine ns ?_
   refine ZeP (m := sub) (k := t.fName) Zeh (ev := Za.cells) Zsa (Za.cells_eq r12.1) (fun x => Za.cells_len x) rfl rfl (Zem (Za.cells_eq (Za.mk 0 (ByteArray.mk #[]) (Zi.mk ([] : List Zi)) ([] : List Za))) (lc (lc (ZbA WE.nil (ZbA WE.nil Zn))))) ?_
   refine st ?_
   refine AWP.seq ?_
   refine ns ?_
   refine nw ?_
   refine Zj hF (fun Zbp hF => ?_) (fun Zbp hF => ?_)
   ·refine AWP.seq ?_
    obtain ⟨r14, Zmp, hF⟩ := bind_some hF
    refine ns ?_
    refine e3 ?_
    refine st ?_
    refine cm (Zk.weak (rn []) (ZoR r12.1 _ Zmp) rfl (WS.mk (Zd (Zq (lc (lc (lc (lc Zn))))) Zb) Zc)) ?_
    refine st ?_
    obtain rfl := Zh hF
    refine ns ?_
    refine Exists.intro [(1000, 1000)] ?_
    refine st ?_
    exact wx (WS.mk (Zd (Zq (lc (lc (lc (lc Zn))))) Zb) (Ze rfl (cc Zg) Zc))
   ·refine nw ?_
    refine AWP.seq ?_
    refine ns ?_
    obtain rfl := Zh hF
    refine ns ?_
    refine Exists.intro [(1000, 1000)] ?_
    refine st ?_
    exact wx (WS.mk (Zd (Zq (lc (lc (lc (lc Zn))))) Zb) (Ze rfl (cc Zg) Zc))
  ·refine nw ?_
   refine AWP.seq ?_
   refine AWP.seq ?_
   refine ns ?_
   refine nw ?_
   refine Zj hF (fun Zjv hF => ?_) (fun Zjv hF => ?_)
   ·refine AWP.seq ?_
    refine ns ?_
    refine AWP.seq ?_
    refine AWP.seq ?_
    obtain ⟨r77, ZEs, hF⟩ := bind_some hF
    refine ns ?_
    refine e3 ?_
    refine st ?_
    refine cm (Zk.weak (rn []) (Zi5 ([] : List ByteArray) ([] : List ByteArray) t _ ZEs) rfl (WS.mk (Zd Zmh (Zd (Zp WE.nil) (Zd (Zq (lc (lc (lc (lc Zn))))) Zb))) Zc)) ?_
    refine st ?_
    intro hlen78
    (try rw [List.length_map] at hlen78)
    (try rw [List.length_map])
    refine st ?_
    refine AWP.block ?_
    refine AWP.loop ?_
    refine AWL.weak (rn [(34, 34)]) ?_ (Znq ([]) r77 0 t sub r77 _ hF ([]) rfl rfl hlen78)
    exact (WS.mk (tc (tp (tp (Zd Zmh (Zd (Zc9 rfl (WE.refl _)) (tc (tc Zb))))))) (Ze rfl (cc (cc (cc (cc Zg)))) (Ze rfl (cc (cc (cc (cc Zg)))) (Ze rfl (cc Zg) Zc))))
   ·refine nw ?_
    refine AWP.seq ?_
    refine ns ?_
    refine AWP.seq ?_
    refine ns ?_
    refine AWP.seq ?_
    refine AWP.seq ?_
    refine ns ?_
    intro hlen138
    (try rw [List.length_map] at hlen138)
    (try rw [List.length_map])
    refine st ?_
    refine AWP.block ?_
    refine AWP.loop ?_
    refine AWL.weak (rn []) ?_ (Zgr t 0 ([]) sub t.fKids _ hF ([]) rfl rfl hlen138)
    exact (WS.mk (tc (tp (tp (tc (tc (tc Zb)))))) (Ze rfl (cc (cc (cc (Zjr Zg)))) (Ze rfl (cc (cc (cc (cc Zg)))) (Ze rfl (cc Zg) Zc))))
 ·intro types_subst' types_subst_l2' Zkw ZdR t ZmK ZhE Zfh r hF
  have Zpj := fun (_sub : (List (ByteArray × Za))) (t : Za) => Zkw t
  clear Zkw
  have Zgr := fun (t : Za) (ZmK : Nat) (ZhE : (List Za)) (_sub : (List (ByteArray × Za))) (Zfh : (List Za)) => ZdR t ZmK ZhE Zfh
  clear ZdR
  unfold ZbK.M
  intro Zng Zve Zv2 hlen138
  refine AWL.step ?_
  refine AWP.seq ?_
  refine ns ?_
  refine AWP.seq ?_
  refine nw ?_
  refine ZK Zve Zv2 (fun Zxl ZxC ZyW ZC2 ZDk => ?_) (fun ZyW => ?_)
  ·subst ZyW
   refine nw ?_
   refine AWP.seq ?_
   refine AWP.block ?_
   refine AWP.seq ?_
   refine nn ?_
   refine sr (Zag (f := Za.cells) (Za.cells_eq Zxl) ZC2) ?_
   refine st ?_
   obtain ⟨Zw7, ZCi, hF⟩ := bind_some hF
   obtain ⟨ZC0, hF⟩ := ZD hF
   refine nn ?_
   refine Or.inl (Or.inl (Exists.intro 6 (Exists.intro [[], [], [], [], [1000], []] (Exists.intro [([88, 89, 90, 91, 92, 93], [1000], []), ([89, 90, 91, 92, 93], [1000], []), ([88, 89, 90, 91, 92, 93], [], []), ([88, 89, 90, 91, 92, 93], [], []), ([88, 89, 92, 93], [], [1000]), ([88, 89, 93], [], [])] (Exists.intro [88, 89, 90, 91, 92, 93] (And.intro (by decide +kernel) ?_))))))
   refine dp ?_
   refine dp ?_
   refine dp ?_
   refine dp ?_
   (refine st ?_; apply Exists.intro; apply Exists.intro; apply And.intro; (focus ((conv => whnf); refine Exists.intro [(1000, 1000)] ?_; (conv => whnf); refine And.intro rfl ?_; (conv => whnf); refine Zk.mono (Zk.weak (rn []) (Zpj sub Zxl _ ZCi) rfl (WS.mk (tc (Zd (Zq (lc (lc (lc (lc Zn))))) Zb)) (Ze rfl (cc Zg) Zc))) ?_; rintro d b ⟨rfl, rfl⟩; exact And.intro rfl (And.intro rfl rfl))); apply And.intro; (focus exact rfl); (conv => whnf))
   refine de (ZcZ (f := Za.cells) (Zem (Za.cells_eq Zw7) (lc (lc (lc (lc Zn))))) (Zbb (f := Za.cells))) ?_
   refine sa (fun l => Zc0 l (fun x => Za.cells_len x)) ZC0 ?_
   refine Exists.intro _ (And.intro (WE.refl _) ?_)
   rw [← List.map_append]
   refine st ?_
   refine ns ?_
   refine AWL.weak (rn [(94, 4153)]) ?_ (Zgr t (ZmK + 1) (ZhE ++ ([Zw7])) sub ZxC _ hF (Zng ++ [Zxl]) (by rw [Zve]; simp) (by rw [Zv2]; simp) hlen138)
   exact (WS.mk (tc (tp (tp (tc (tc (Zd (Zp (Zc3 (ZX hlen138 ZDk))) Zb)))))) (Ze rfl (cc (cc (cc (ZfY rfl (WE.refl _) Zg)))) (Ze rfl (cc (cc (cc (cc Zg)))) (Ze rfl (cc Zg) Zc))))
  ·subst ZyW
   refine nw ?_
   refine AWP.seq ?_
   refine ns ?_
   obtain rfl := Zh hF
   refine ns ?_
   refine Exists.intro [(1000, 1000)] ?_
   refine st ?_
   exact wx (WS.mk (Zd (Zq (lc (lc (lc (lc Zn))))) Zb) (Ze rfl (cc Zg) Zc))
theorem ZkR : ∀ (sub : (List (ByteArray × Za))) (t : Za), ∀ r, Zci sub t = some r → Zci.M sub t r := fun sub t => (ZoM sub).1 t

def Zb0 (s : (List Zf)) (Zfb : Nat) (t : Za) (ZaT : (List (ByteArray × Za))) (ZcJ : (List Zf)) : Option (Za) :=
 (match ZcJ with
 | x73 :: ZqB =>
 ZaG x73.fName >>= fun r80 =>
 (if (!r80) = true then some true else Zbm x73.fType >>= fun r81 =>
 some (r81 != 0)) >>= fun c82 =>
 if c82 = true then
 some (Za.mk 0 (ByteArray.mk #[]) (Zi.mk ([] : List Zi)) ([] : List Za))
 else
 Zdf ZaT (Za.mk 0 (ByteArray.mk #[]) (Zi.mk ([] : List Zi)) ([] : List Za)) x73.fName >>= fun r85 =>
 if (!r85.2) = true then
 Zb0 s (Zfb + 1) t (Zfm ZaT x73.fName x73.fType) ZqB
 else
 Zb0 s (Zfb + 1) t ZaT ZqB
 | [] =>
 Zbv ZaT t >>= fun r89 =>
 if ((decide (r89.1 > 20000)) || (decide (r89.2 > 100))) = true then
 some (Za.mk 0 (ByteArray.mk #[]) (Zi.mk ([] : List Zi)) ([] : List Za))
 else
 Zci ZaT t >>= fun r92 =>
 some r92)
 partial_fixpoint
def Zb0.M (s : (List Zf)) (Zfb : Nat) (t : Za) (ZaT : (List (ByteArray × Za))) (ZcJ : (List Zf)) (r : Za) : Prop :=
 ∀ Zfd : List Zf, s = Zfd ++ ZcJ → Zfb = Zfd.length → s.length ≤ maxLen → AWL Tryz.prog 65 (Code.sub (Zs Tryz.f44) [1, 1, 1, 0, 1, 0, 0]) (Code.cont Tryz.prog 65 (Zs Tryz.f44) [1, 1, 1, 0, 1, 0] (Zce tab Tryz.f44.results (Zch (.agg [.v (.int .i64 r.fOp), .v (.string r.fName), .sl (r.fBound.fArgs.map Zi.cells), .sl (r.fKids.map Za.cells)]) [(1000, [(none, .ob 90 (s.map Zf.cells))])]))) ⟨[(3, .ptr 3 0), (4, .ptr 4 0), (5, .c none (.rf 16)), (17, .c none (.rs 1000 s.length)), (18, .c none (.v (.int .i64 ((s.length : Nat) : Int)))), (19, .c none (.v (.int .i64 ((Zfb : Nat) : Int))))], [(3, [(none, .v (.int .i64 t.fOp)), (none, .v (.string t.fName)), (none, .sl (t.fBound.fArgs.map Zi.cells)), (none, .sl (t.fKids.map Za.cells))]), (4, [(none, .v (.int .i64 0)), (none, .v (.string (ByteArray.mk #[]))), (none, .nils), (none, .nils)]), (16, [(none, .ob 183 (ZaT.map (Zcj c_S Za.cells)))]), (1000, [(none, .ob 90 (s.map Zf.cells))])]⟩
theorem Zno (s : (List Zf)) (Zfb : Nat) (t : Za) (ZaT : (List (ByteArray × Za))) (ZcJ : (List Zf)) : ∀ r, Zb0 s Zfb t ZaT ZcJ = some r → Zb0.M s Zfb t ZaT ZcJ r := by
 refine Zb0.partial_correctness s t (fun Zfb ZaT ZcJ r => Zb0.M s Zfb t ZaT ZcJ r) ?_ Zfb ZaT ZcJ
 intro types_Subst_l1' Zic Zfb ZaT ZcJ r hF
 have ZiL := fun (_s : (List Zf)) (Zfb : Nat) (_t : Za) (ZaT : (List (ByteArray × Za))) (ZcJ : (List Zf)) => Zic Zfb ZaT ZcJ
 clear Zic
 unfold Zb0.M
 intro Zfd ZjQ Zkp hlen45
 refine AWL.step ?_
 refine AWP.seq ?_
 refine ns ?_
 refine AWP.seq ?_
 refine nw ?_
 refine ZK ZjQ Zkp (fun x73 ZqB Zus Zwo Zx7 => ?_) (fun Zus => ?_)
 ·subst Zus
  refine nw ?_
  refine AWP.seq ?_
  refine AWP.block ?_
  refine AWP.seq ?_
  refine ns ?_
  refine And.intro (Zpq Zwo) ?_
  refine st ?_
  refine sr (Zag (f := Zf.cells) (Zf.cells_eq x73) Zwo) ?_
  refine st ?_
  refine AWP.seq ?_
  refine AWP.seq ?_
  obtain ⟨r80, ZzY, hF⟩ := bind_some hF
  obtain ⟨c82, Zlb, hF⟩ := bind_some hF
  refine AWP.cutN (fun T => ∃ r, WS r T ⟨[(3, .ptr 3 0), (4, .ptr 4 0), (5, .c none (.rf 16)), (7, .ptr 7 0), (17, .c none (.rs 1000 s.length)), (18, .c none (.v (.int .i64 ((s.length : Nat) : Int)))), (19, .c none (.v (.int .i64 ((Zfb : Nat) : Int)))), (32, .c none (.v (.bool c82)))], [(3, [(none, .v (.int .i64 t.fOp)), (none, .v (.string t.fName)), (none, .sl (t.fBound.fArgs.map Zi.cells)), (none, .sl (t.fKids.map Za.cells))]), (4, [(none, .v (.int .i64 0)), (none, .v (.string (ByteArray.mk #[]))), (none, .nils), (none, .nils)]), (7, [(none, .v (.string x73.fName)), (none, .v (.int .i64 x73.fType.fOp)), (none, .v (.string x73.fType.fName)), (none, .sl (x73.fType.fBound.fArgs.map Zi.cells)), (none, .sl (x73.fType.fKids.map Za.cells))]), (16, [(none, .ob 183 (ZaT.map (Zcj c_S Za.cells)))]), (1000, [(none, .ob 90 (s.map Zf.cells))])]⟩) ?_ (fun T hw => ?_)
  ·refine ns ?_
   refine e3 ?_
   refine st ?_
   refine cm (Zk.weak (rn []) (ZeT x73.fName _ ZzY) rfl (WS.mk (tc Zb) Zc)) ?_
   refine st ?_
   refine Zl false (fun ZpM => ?_) (fun ZpM => ?_)
   ·have Zlb := ift ZpM Zlb
    (conv => whnf)
    obtain rfl := Zh Zlb
    refine st ?_
    exact wx (WS.mk (tp (tp (tc (tp (Zd (Zp (ZV (by first | exact rfl | simp only [List.length_set]))) (tc (tc (Zd (Zp (web ZpM)) Zb)))))))) (Ze rfl (cc (cc (cc (cc Zg)))) (Ze rfl (cc (cc (cc (cc Zg)))) (Ze rfl (cc (cc (cc (cc (cc Zg))))) (Ze rfl (cc Zg) (Ze rfl (cc Zg) Zc))))))
   ·have Zlb := ife ZpM Zlb
    obtain ⟨r81, ZBs, Zlb⟩ := bind_some Zlb
    (conv => whnf)
    refine st ?_
    refine e3 ?_
    refine st ?_
    refine cm (Zk.weak (rn []) (Zdr x73.fType _ ZBs) rfl (WS.mk (Zd (Zq (lc (lc (lc (lc Zn))))) Zb) Zc)) ?_
    refine st ?_
    obtain rfl := Zh Zlb
    refine st ?_
    exact wx (WS.mk (tp (tp (tc (tp (Zd (Zp (ZV (by first | exact rfl | simp only [List.length_set]))) (tc (tc (Zd (Zp (web ZpM)) Zb)))))))) (Ze rfl (cc (cc (cc (cc Zg)))) (Ze rfl (cc (cc (cc (cc Zg)))) (Ze rfl (cc (cc (cc (cc (cc Zg))))) (Ze rfl (cc Zg) (Ze rfl (cc Zg) Zc))))))
  obtain ⟨r0, hw⟩ := hw
  (conv => whnf)
  refine AWP.weak r0 hw ?_
  refine nw ?_
  refine Zj hF (fun Zys hF => ?_) (fun Zys hF => ?_)
  ·refine AWP.seq ?_
   refine ns ?_
   obtain rfl := Zh hF
   refine ns ?_
   refine Exists.intro [(1000, 1000)] ?_
   refine st ?_
   exact wx (WS.mk (Zd (Zq (lc (lc (ZbA WE.nil (ZbA WE.nil Zn))))) Zb) (Ze rfl (cc Zg) Zc))
  ·refine nw ?_
   refine AWP.seq ?_
   obtain ⟨r85, ZA0, hF⟩ := bind_some hF
   refine ns ?_
   refine ZeP (m := ZaT) (k := x73.fName) Zeh (ev := Za.cells) ZA0 (Za.cells_eq r85.1) (fun x => Za.cells_len x) rfl rfl (Zem (Za.cells_eq (Za.mk 0 (ByteArray.mk #[]) (Zi.mk ([] : List Zi)) ([] : List Za))) (lc (lc (ZbA WE.nil (ZbA WE.nil Zn))))) ?_
   refine st ?_
   refine AWP.seq ?_
   refine ns ?_
   refine nw ?_
   refine Zj hF (fun ZBr hF => ?_) (fun ZBr hF => ?_)
   ·refine ns ?_
    refine ZiK (m := ZaT) (k := x73.fName) (v := x73.fType) Zeh (ev := Za.cells) (Zem (Za.cells_eq x73.fType) (lc (lc (lc (lc Zn))))) ?_
    refine st ?_
    refine ns ?_
    refine AWL.weak (rn []) ?_ (ZiL s (Zfb + 1) t (Zfm ZaT x73.fName x73.fType) ZqB _ hF (Zfd ++ [x73]) (by rw [ZjQ]; simp) (by rw [Zkp]; simp) hlen45)
    exact (WS.mk (tp (tp (tc (Zd (Zp (ZV (by first | exact rfl | simp only [List.length_set]))) (tc (Zd (Zp (Zc3 (ZX hlen45 Zx7))) Zb)))))) (Ze rfl (cc (cc (cc (cc Zg)))) (Ze rfl (cc (cc (cc (cc Zg)))) (Ze rfl (cc Zg) (Ze rfl (cc Zg) Zc)))))
   ·refine nw ?_
    refine ns ?_
    refine AWL.weak (rn []) ?_ (ZiL s (Zfb + 1) t ZaT ZqB _ hF (Zfd ++ [x73]) (by rw [ZjQ]; simp) (by rw [Zkp]; simp) hlen45)
    exact (WS.mk (tp (tp (tc (Zd (Zp (ZV (by first | exact rfl | simp only [List.length_set]))) (tc (Zd (Zp (Zc3 (ZX hlen45 Zx7))) Zb)))))) (Ze rfl (cc (cc (cc (cc Zg)))) (Ze rfl (cc (cc (cc (cc Zg)))) (Ze rfl (cc Zg) (Ze rfl (cc Zg) Zc)))))
 ·subst Zus
  refine nw ?_
  refine AWP.seq ?_
  refine AWP.seq ?_
  obtain ⟨r89, ZAw, hF⟩ := bind_some hF
  refine ns ?_
  refine Exists.intro [] (Exists.intro [(16, 1000)] (Exists.intro [] ?_))
  refine st ?_
  refine cm (Zk.weak (rn []) (Zi9 ZaT t _ ZAw) rfl (WS.mk (tc (Zd (Zq (lc (lc (lc (lc Zn))))) Zb)) (Ze rfl (cc Zg) Zc))) ?_
  refine st ?_
  refine AWP.seq ?_
  refine AWP.cutN (fun T => ∃ r, WS r T ⟨[(3, .ptr 3 0), (4, .ptr 4 0), (5, .c none (.rf 16)), (60, .c none (.v (.bool ((decide (r89.1 > 20000)) || (decide (r89.2 > 100))))))], [(3, [(none, .v (.int .i64 t.fOp)), (none, .v (.string t.fName)), (none, .sl (t.fBound.fArgs.map Zi.cells)), (none, .sl (t.fKids.map Za.cells))]), (4, [(none, .v (.int .i64 0)), (none, .v (.string (ByteArray.mk #[]))), (none, .nils), (none, .nils)]), (16, [(none, .ob 183 (ZaT.map (Zcj c_S Za.cells)))]), (1000, [(none, .ob 90 (s.map Zf.cells))])]⟩) ?_ (fun T hw => ?_)
  ·refine ns ?_
   refine Zl false (fun Zun => ?_) (fun Zun => ?_)
   ·(conv => whnf)
    refine st ?_
    exact wx (WS.mk (tp (tp (tc (Zd (Zp (web Zun)) Zb)))) (Ze rfl (cc (cc (cc (cc Zg)))) (Ze rfl (cc (cc (cc (cc Zg)))) (Ze rfl (cc Zg) (Ze rfl (cc Zg) Zc)))))
   ·(conv => whnf)
    refine st ?_
    exact wx (WS.mk (tp (tp (tc (Zd (Zp (web Zun)) Zb)))) (Ze rfl (cc (cc (cc (cc Zg)))) (Ze rfl (cc (cc (cc (cc Zg)))) (Ze rfl (cc Zg) (Ze rfl (cc Zg) Zc)))))
  obtain ⟨r0, hw⟩ := hw
  (conv => whnf)
  refine AWP.weak r0 hw ?_
  refine nw ?_
  refine Zj hF (fun ZAu hF => ?_) (fun ZAu hF => ?_)
  ·refine AWP.seq ?_
   refine ns ?_
   obtain rfl := Zh hF
   refine ns ?_
   refine Exists.intro [(1000, 1000)] ?_
   refine st ?_
   exact wx (WS.mk (Zd (Zq (lc (lc (ZbA WE.nil (ZbA WE.nil Zn))))) Zb) (Ze rfl (cc Zg) Zc))
  ·refine nw ?_
   refine AWP.seq ?_
   obtain ⟨r92, Zw4, hF⟩ := bind_some hF
   refine ns ?_
   refine Exists.intro [] (Exists.intro [(16, 1000)] (Exists.intro [] ?_))
   refine st ?_
   refine cm (Zk.weak (rn []) (ZkR ZaT t _ Zw4) rfl (WS.mk (tc (Zd (Zq (lc (lc (lc (lc Zn))))) Zb)) (Ze rfl (cc Zg) Zc))) ?_
   refine st ?_
   obtain rfl := Zh hF
   refine ns ?_
   refine Exists.intro [(1000, 1000)] ?_
   refine st ?_
   exact wx (WS.mk (Zd (Zq (lc (lc (lc (lc Zn))))) Zb) (Ze rfl (cc Zg) Zc))

def Zeb (s : (List Zf)) (t : Za) : Option (Za) :=
 Zbm t >>= fun r3 =>
 if (r3 != 0) = true then
 some (Za.mk 0 (ByteArray.mk #[]) (Zi.mk ([] : List Zi)) ([] : List Za))
 else
 Zb0 s 0 t ([] : List (ByteArray × Za)) s
def Zeb.M (s : (List Zf)) (t : Za) (r : Za) : Prop :=
 Zk Tryz.prog 44 [.c none (.rs 1000 s.length), .agg [.v (.int .i64 t.fOp), .v (.string t.fName), .sl (t.fBound.fArgs.map Zi.cells), .sl (t.fKids.map Za.cells)]] [(1000, [(none, .ob 90 (s.map Zf.cells))])] (fun d b => d = .agg [.v (.int .i64 r.fOp), .v (.string r.fName), .sl (r.fBound.fArgs.map Zi.cells), .sl (r.fKids.map Za.cells)] ∧ b = [(1000, [(none, .ob 90 (s.map Zf.cells))])])
theorem Zp1 (s : (List Zf)) (t : Za) (r : Za) (hF : Zeb s t = some r) : Zeb.M s t r := by
 unfold Zeb at hF
 unfold Zeb.M
 refine en Tryz.func44 ?_
 refine AWP.seq ?_
 refine ns ?_
 refine AWP.seq ?_
 refine AWP.seq ?_
 obtain ⟨r3, hr3, hF⟩ := bind_some hF
 refine ns ?_
 refine e3 ?_
 refine st ?_
 refine cm (Zk.weak (rn []) (Zdr t _ hr3) rfl (WS.mk (Zd (Zq (lc (lc (lc (lc Zn))))) Zb) Zc)) ?_
 refine st ?_
 refine nw ?_
 refine Zj hF (fun hc4 hF => ?_) (fun hc4 hF => ?_)
 ·refine AWP.seq ?_
  refine ns ?_
  obtain rfl := Zh hF
  refine ns ?_
  refine Exists.intro [(1000, 1000)] ?_
  refine st ?_
  exact wx (WS.mk (Zd (Zq (lc (lc (ZbA WE.nil (ZbA WE.nil Zn))))) Zb) (Ze rfl (cc Zg) Zc))
 ·refine nw ?_
  refine AWP.seq ?_
  refine ns ?_
  refine AWP.seq ?_
  refine AWP.seq ?_
  refine ns ?_
  intro hlen45
  (try rw [List.length_map] at hlen45)
  (try rw [List.length_map])
  refine st ?_
  refine AWP.block ?_
  refine AWP.loop ?_
  refine AWL.weak (rn []) ?_ (Zno s 0 t ([] : List (ByteArray × Za)) s _ hF ([]) rfl rfl hlen45)
  exact (WS.mk (tp (tp (tc (Zd (Zp (ZV (by first | exact rfl | simp only [List.length_set]))) (tc (tc Zb)))))) (Ze rfl (cc (cc (cc (cc Zg)))) (Ze rfl (cc (cc (cc (cc Zg)))) (Ze rfl (cc Zg) (Ze rfl (cc Zg) Zc)))))

def ZbB (s : (List Zf)) (Zfb : Nat) (t : Za) (ZaT : (List (ByteArray × Za))) (ZcJ : (List Zf)) : Option (Za) :=
 (match ZcJ with
 | x73 :: ZqB =>
 ZaG x73.fName >>= fun r80 =>
 (if (!r80) = true then some true else Zbm x73.fType >>= fun r81 =>
 some (r81 != 0)) >>= fun c82 =>
 if c82 = true then
 some (Za.mk 0 (ByteArray.mk #[]) (Zi.mk ([] : List Zi)) ([] : List Za))
 else
 Zdf ZaT (Za.mk 0 (ByteArray.mk #[]) (Zi.mk ([] : List Zi)) ([] : List Za)) x73.fName >>= fun r85 =>
 if (!r85.2) = true then
 ZbB s (Zfb + 1) t (Zfm ZaT x73.fName x73.fType) ZqB
 else
 ZbB s (Zfb + 1) t ZaT ZqB
 | [] =>
 Zbv ZaT t >>= fun r89 =>
 if ((decide (r89.1 > 20000)) || (decide (r89.2 > 100))) = true then
 some (Za.mk 0 (ByteArray.mk #[]) (Zi.mk ([] : List Zi)) ([] : List Za))
 else
 Zci ZaT t >>= fun r92 =>
 some r92)
 partial_fixpoint
def ZbB.M (s : (List Zf)) (Zfb : Nat) (t : Za) (ZaT : (List (ByteArray × Za))) (ZcJ : (List Zf)) (r : Za) : Prop :=
 ∀ Zfd : List Zf, s = Zfd ++ ZcJ → Zfb = Zfd.length → s.length ≤ maxLen → AWL Tryz.prog 65 (Code.sub (Zs Tryz.f44) [1, 1, 1, 0, 1, 0, 0]) (Code.cont Tryz.prog 65 (Zs Tryz.f44) [1, 1, 1, 0, 1, 0] (Zce tab Tryz.f44.results (Zch (.agg [.v (.int .i64 r.fOp), .v (.string r.fName), .sl (r.fBound.fArgs.map Zi.cells), .sl (r.fKids.map Za.cells)]) []))) ⟨[(3, .ptr 3 0), (4, .ptr 4 0), (5, .c none (.rf 16)), (17, .c none (.sl (s.map Zf.cells))), (18, .c none (.v (.int .i64 ((s.length : Nat) : Int)))), (19, .c none (.v (.int .i64 ((Zfb : Nat) : Int))))], [(3, [(none, .v (.int .i64 t.fOp)), (none, .v (.string t.fName)), (none, .sl (t.fBound.fArgs.map Zi.cells)), (none, .sl (t.fKids.map Za.cells))]), (4, [(none, .v (.int .i64 0)), (none, .v (.string (ByteArray.mk #[]))), (none, .nils), (none, .nils)]), (16, [(none, .ob 183 (ZaT.map (Zcj c_S Za.cells)))])]⟩
theorem ZmA (s : (List Zf)) (Zfb : Nat) (t : Za) (ZaT : (List (ByteArray × Za))) (ZcJ : (List Zf)) : ∀ r, ZbB s Zfb t ZaT ZcJ = some r → ZbB.M s Zfb t ZaT ZcJ r := by
 refine ZbB.partial_correctness s t (fun Zfb ZaT ZcJ r => ZbB.M s Zfb t ZaT ZcJ r) ?_ Zfb ZaT ZcJ
 intro types_Subst__l1' Zhx Zfb ZaT ZcJ r hF
 have Ziq := fun (_s : (List Zf)) (Zfb : Nat) (_t : Za) (ZaT : (List (ByteArray × Za))) (ZcJ : (List Zf)) => Zhx Zfb ZaT ZcJ
 clear Zhx
 unfold ZbB.M
 intro Zfd ZjQ Zkp hlen45
 refine AWL.step ?_
 refine AWP.seq ?_
 refine ns ?_
 refine AWP.seq ?_
 refine nw ?_
 refine ZK ZjQ Zkp (fun x73 ZqB Zus Zwo Zx7 => ?_) (fun Zus => ?_)
 ·subst Zus
  refine nw ?_
  refine AWP.seq ?_
  refine AWP.block ?_
  refine AWP.seq ?_
  refine nn ?_
  refine sr (Zag (f := Zf.cells) (Zf.cells_eq x73) Zwo) ?_
  refine st ?_
  refine AWP.seq ?_
  refine AWP.seq ?_
  obtain ⟨r80, ZzY, hF⟩ := bind_some hF
  obtain ⟨c82, Zlb, hF⟩ := bind_some hF
  refine AWP.cutN (fun T => ∃ r, WS r T ⟨[(3, .ptr 3 0), (4, .ptr 4 0), (5, .c none (.rf 16)), (7, .ptr 7 0), (17, .c none (.sl (s.map Zf.cells))), (18, .c none (.v (.int .i64 ((s.length : Nat) : Int)))), (19, .c none (.v (.int .i64 ((Zfb : Nat) : Int)))), (32, .c none (.v (.bool c82)))], [(3, [(none, .v (.int .i64 t.fOp)), (none, .v (.string t.fName)), (none, .sl (t.fBound.fArgs.map Zi.cells)), (none, .sl (t.fKids.map Za.cells))]), (4, [(none, .v (.int .i64 0)), (none, .v (.string (ByteArray.mk #[]))), (none, .nils), (none, .nils)]), (7, [(none, .v (.string x73.fName)), (none, .v (.int .i64 x73.fType.fOp)), (none, .v (.string x73.fType.fName)), (none, .sl (x73.fType.fBound.fArgs.map Zi.cells)), (none, .sl (x73.fType.fKids.map Za.cells))]), (16, [(none, .ob 183 (ZaT.map (Zcj c_S Za.cells)))])]⟩) ?_ (fun T hw => ?_)
  ·refine ns ?_
   refine e3 ?_
   refine st ?_
   refine cm (Zk.weak (rn []) (ZeT x73.fName _ ZzY) rfl (WS.mk (tc Zb) Zc)) ?_
   refine st ?_
   refine Zl false (fun ZpM => ?_) (fun ZpM => ?_)
   ·have Zlb := ift ZpM Zlb
    (conv => whnf)
    obtain rfl := Zh Zlb
    refine st ?_
    exact wx (WS.mk (tp (tp (tc (tp (tc (tc (tc (Zd (Zp (web ZpM)) Zb)))))))) (Ze rfl (cc (cc (cc (cc Zg)))) (Ze rfl (cc (cc (cc (cc Zg)))) (Ze rfl (cc (cc (cc (cc (cc Zg))))) (Ze rfl (cc Zg) Zc)))))
   ·have Zlb := ife ZpM Zlb
    obtain ⟨r81, ZBs, Zlb⟩ := bind_some Zlb
    (conv => whnf)
    refine st ?_
    refine e3 ?_
    refine st ?_
    refine cm (Zk.weak (rn []) (Zdr x73.fType _ ZBs) rfl (WS.mk (Zd (Zq (lc (lc (lc (lc Zn))))) Zb) Zc)) ?_
    refine st ?_
    obtain rfl := Zh Zlb
    refine st ?_
    exact wx (WS.mk (tp (tp (tc (tp (tc (tc (tc (Zd (Zp (web ZpM)) Zb)))))))) (Ze rfl (cc (cc (cc (cc Zg)))) (Ze rfl (cc (cc (cc (cc Zg)))) (Ze rfl (cc (cc (cc (cc (cc Zg))))) (Ze rfl (cc Zg) Zc)))))
  obtain ⟨r0, hw⟩ := hw
  (conv => whnf)
  refine AWP.weak r0 hw ?_
  refine nw ?_
  refine Zj hF (fun Zys hF => ?_) (fun Zys hF => ?_)
  ·refine AWP.seq ?_
   refine ns ?_
   obtain rfl := Zh hF
   refine ns ?_
   refine Exists.intro [] ?_
   refine st ?_
   exact wx (WS.mk (Zd (Zq (lc (lc (ZbA WE.nil (ZbA WE.nil Zn))))) Zb) Zc)
  ·refine nw ?_
   refine AWP.seq ?_
   obtain ⟨r85, ZA0, hF⟩ := bind_some hF
   refine ns ?_
   refine ZeP (m := ZaT) (k := x73.fName) Zeh (ev := Za.cells) ZA0 (Za.cells_eq r85.1) (fun x => Za.cells_len x) rfl rfl (Zem (Za.cells_eq (Za.mk 0 (ByteArray.mk #[]) (Zi.mk ([] : List Zi)) ([] : List Za))) (lc (lc (ZbA WE.nil (ZbA WE.nil Zn))))) ?_
   refine st ?_
   refine AWP.seq ?_
   refine ns ?_
   refine nw ?_
   refine Zj hF (fun ZBr hF => ?_) (fun ZBr hF => ?_)
   ·refine ns ?_
    refine ZiK (m := ZaT) (k := x73.fName) (v := x73.fType) Zeh (ev := Za.cells) (Zem (Za.cells_eq x73.fType) (lc (lc (lc (lc Zn))))) ?_
    refine st ?_
    refine ns ?_
    refine AWL.weak (rn []) ?_ (Ziq s (Zfb + 1) t (Zfm ZaT x73.fName x73.fType) ZqB _ hF (Zfd ++ [x73]) (by rw [ZjQ]; simp) (by rw [Zkp]; simp) hlen45)
    exact (WS.mk (tp (tp (tc (tc (tc (Zd (Zp (Zc3 (ZX hlen45 Zx7))) Zb)))))) (Ze rfl (cc (cc (cc (cc Zg)))) (Ze rfl (cc (cc (cc (cc Zg)))) (Ze rfl (cc Zg) Zc))))
   ·refine nw ?_
    refine ns ?_
    refine AWL.weak (rn []) ?_ (Ziq s (Zfb + 1) t ZaT ZqB _ hF (Zfd ++ [x73]) (by rw [ZjQ]; simp) (by rw [Zkp]; simp) hlen45)
    exact (WS.mk (tp (tp (tc (tc (tc (Zd (Zp (Zc3 (ZX hlen45 Zx7))) Zb)))))) (Ze rfl (cc (cc (cc (cc Zg)))) (Ze rfl (cc (cc (cc (cc Zg)))) (Ze rfl (cc Zg) Zc))))
 ·subst Zus
  refine nw ?_
  refine AWP.seq ?_
  refine AWP.seq ?_
  obtain ⟨r89, ZAw, hF⟩ := bind_some hF
  refine ns ?_
  refine Exists.intro [] (Exists.intro [(16, 1000)] (Exists.intro [] ?_))
  refine st ?_
  refine cm (Zk.weak (rn []) (Zi9 ZaT t _ ZAw) rfl (WS.mk (tc (Zd (Zq (lc (lc (lc (lc Zn))))) Zb)) (Ze rfl (cc Zg) Zc))) ?_
  refine st ?_
  refine AWP.seq ?_
  refine AWP.cutN (fun T => ∃ r, WS r T ⟨[(3, .ptr 3 0), (4, .ptr 4 0), (5, .c none (.rf 16)), (60, .c none (.v (.bool ((decide (r89.1 > 20000)) || (decide (r89.2 > 100))))))], [(3, [(none, .v (.int .i64 t.fOp)), (none, .v (.string t.fName)), (none, .sl (t.fBound.fArgs.map Zi.cells)), (none, .sl (t.fKids.map Za.cells))]), (4, [(none, .v (.int .i64 0)), (none, .v (.string (ByteArray.mk #[]))), (none, .nils), (none, .nils)]), (16, [(none, .ob 183 (ZaT.map (Zcj c_S Za.cells)))])]⟩) ?_ (fun T hw => ?_)
  ·refine ns ?_
   refine Zl false (fun Zun => ?_) (fun Zun => ?_)
   ·(conv => whnf)
    refine st ?_
    exact wx (WS.mk (tp (tp (tc (Zd (Zp (web Zun)) Zb)))) (Ze rfl (cc (cc (cc (cc Zg)))) (Ze rfl (cc (cc (cc (cc Zg)))) (Ze rfl (cc Zg) Zc))))
   ·(conv => whnf)
    refine st ?_
    exact wx (WS.mk (tp (tp (tc (Zd (Zp (web Zun)) Zb)))) (Ze rfl (cc (cc (cc (cc Zg)))) (Ze rfl (cc (cc (cc (cc Zg)))) (Ze rfl (cc Zg) Zc))))
  obtain ⟨r0, hw⟩ := hw
  (conv => whnf)
  refine AWP.weak r0 hw ?_
  refine nw ?_
  refine Zj hF (fun ZAu hF => ?_) (fun ZAu hF => ?_)
  ·refine AWP.seq ?_
   refine ns ?_
   obtain rfl := Zh hF
   refine ns ?_
   refine Exists.intro [] ?_
   refine st ?_
   exact wx (WS.mk (Zd (Zq (lc (lc (ZbA WE.nil (ZbA WE.nil Zn))))) Zb) Zc)
  ·refine nw ?_
   refine AWP.seq ?_
   obtain ⟨r92, Zw4, hF⟩ := bind_some hF
   refine ns ?_
   refine Exists.intro [] (Exists.intro [(16, 1000)] (Exists.intro [] ?_))
   refine st ?_
   refine cm (Zk.weak (rn []) (ZkR ZaT t _ Zw4) rfl (WS.mk (tc (Zd (Zq (lc (lc (lc (lc Zn))))) Zb)) (Ze rfl (cc Zg) Zc))) ?_
   refine st ?_
   obtain rfl := Zh hF
   refine ns ?_
   refine Exists.intro [] ?_
   refine st ?_
   exact wx (WS.mk (Zd (Zq (lc (lc (lc (lc Zn))))) Zb) Zc)

def ZdD (s : (List Zf)) (t : Za) : Option (Za) :=
 Zbm t >>= fun r3 =>
 if (r3 != 0) = true then
 some (Za.mk 0 (ByteArray.mk #[]) (Zi.mk ([] : List Zi)) ([] : List Za))
 else
 ZbB s 0 t ([] : List (ByteArray × Za)) s
def ZdD.M (s : (List Zf)) (t : Za) (r : Za) : Prop :=
 Zk Tryz.prog 44 [.c none (.sl (s.map Zf.cells)), .agg [.v (.int .i64 t.fOp), .v (.string t.fName), .sl (t.fBound.fArgs.map Zi.cells), .sl (t.fKids.map Za.cells)]] [] (fun d b => d = .agg [.v (.int .i64 r.fOp), .v (.string r.fName), .sl (r.fBound.fArgs.map Zi.cells), .sl (r.fKids.map Za.cells)] ∧ b = [])
theorem ZoA (s : (List Zf)) (t : Za) (r : Za) (hF : ZdD s t = some r) : ZdD.M s t r := by
 unfold ZdD at hF
 unfold ZdD.M
 refine en Tryz.func44 ?_
 refine AWP.seq ?_
 refine ns ?_
 refine AWP.seq ?_
 refine AWP.seq ?_
 obtain ⟨r3, hr3, hF⟩ := bind_some hF
 refine ns ?_
 refine e3 ?_
 refine st ?_
 refine cm (Zk.weak (rn []) (Zdr t _ hr3) rfl (WS.mk (Zd (Zq (lc (lc (lc (lc Zn))))) Zb) Zc)) ?_
 refine st ?_
 refine nw ?_
 refine Zj hF (fun hc4 hF => ?_) (fun hc4 hF => ?_)
 ·refine AWP.seq ?_
  refine ns ?_
  obtain rfl := Zh hF
  refine ns ?_
  refine Exists.intro [] ?_
  refine st ?_
  exact wx (WS.mk (Zd (Zq (lc (lc (ZbA WE.nil (ZbA WE.nil Zn))))) Zb) Zc)
 ·refine nw ?_
  refine AWP.seq ?_
  refine ns ?_
  refine AWP.seq ?_
  refine AWP.seq ?_
  refine ns ?_
  intro hlen45
  (try rw [List.length_map] at hlen45)
  (try rw [List.length_map])
  refine st ?_
  refine AWP.block ?_
  refine AWP.loop ?_
  refine AWL.weak (rn []) ?_ (ZmA s 0 t ([] : List (ByteArray × Za)) s _ hF ([]) rfl rfl hlen45)
  exact (WS.mk (tp (tp (tc (tc (tc (tc Zb)))))) (Ze rfl (cc (cc (cc (cc Zg)))) (Ze rfl (cc (cc (cc (cc Zg)))) (Ze rfl (cc Zg) Zc))))

def Z1 (v : ByteArray) (r6 : (Za)) (s : Zr) (ZjN : Nat) (ZA : (List Zf)) : Option (Int × Zr) :=
 if (decide (((ZjN : Nat) : Int) < ((s.flist.length : Nat) : Int))) = true then
 (ZA[ZjN]?) >>= fun x53 =>
 ZdD ([(Zf.mk v r6)]) x53.fType >>= fun r54 =>
 if (r54.fOp == 0) = true then
 some (3, Zr.mk ZA s.fat)
 else
 (ZA[ZjN]?) >>= fun x58 =>
 Z1 v r6 s (ZjN + 1) (ZA.set ZjN (Zf.mk x58.fName r54))
 else
 Zac ((ZA.length + ([(Zf.mk v r6)]).length) * 88 ≤ 140737488355328) >>= fun _ =>
 some (0, Zr.mk (ZA ++ ([(Zf.mk v r6)])) (Zfm s.fat v ((ZA.length : Nat) : Int)))
 partial_fixpoint
def Z1.M (v : ByteArray) (r6 : (Za)) (s : Zr) (ZjN : Nat) (ZA : (List Zf)) (r : Int × Zr) : Prop :=
 s.flist.length ≤ maxLen → AWL Tryz.prog 77 (Code.sub (Zs Tryz.f53) [1, 1, 1, 1, 1, 0, 1, 0, 0]) (Code.cont Tryz.prog 77 (Zs Tryz.f53) [1, 1, 1, 1, 1, 0, 1, 0] (Zce tab Tryz.f53.results (Zch (.c none (.v (.int .i64 r.1))) [(1000, [(none, .rs 7001 r.2.flist.length), (none, .rf 1002)]), (1002, [(none, .ob 109 (r.2.fat.map (Zcj c_S Zba)))]), (7001, [(none, .ob 90 (r.2.flist.map Zf.cells))])]))) ⟨[(0, .ptr 1000 0), (1, .c none (.v (.string v))), (8, .c (some (8, 45)) (.sl (([(Zf.mk v r6)]).map Zf.cells))), (32, .c none (.rs 7001 ZA.length)), (33, .c none (.v (.int .i64 ((s.flist.length : Nat) : Int)))), (34, .c none (.v (.int .i64 ((ZjN : Nat) : Int))))], [(1000, [(none, .rs 7001 ZA.length), (none, .rf 1002)]), (1002, [(none, .ob 109 (s.fat.map (Zcj c_S Zba)))]), (7001, [(none, .ob 90 (ZA.map Zf.cells))])]⟩
theorem Zjh (v : ByteArray) (r6 : (Za)) (s : Zr) (ZjN : Nat) (ZA : (List Zf)) : ∀ r, Z1 v r6 s ZjN ZA = some r → Z1.M v r6 s ZjN ZA r := by
 refine Z1.partial_correctness v r6 s (fun ZjN ZA r => Z1.M v r6 s ZjN ZA r) ?_ ZjN ZA
 intro unify_solver_bind_l1' ZfH ZjN ZA r hF
 have Zjc := fun (_v : ByteArray) (_r6 : (Za)) (_s : Zr) (ZjN : Nat) (ZA : (List Zf)) => ZfH ZjN ZA
 clear ZfH
 unfold Z1.M
 intro hlen34
 refine AWL.step ?_
 refine AWP.seq ?_
 refine ns ?_
 refine AWP.seq ?_
 refine nw ?_
 refine Zj hF (fun ZB7 hF => ?_) (fun ZB7 hF => ?_)
 ·have ZEV := ZwI ZB7
  refine nw ?_
  refine AWP.seq ?_
  refine AWP.block ?_
  refine AWP.seq ?_
  obtain ⟨x53, ZCQ, hF⟩ := bind_some hF
  refine ns ?_
  refine And.intro (Zpq ZCQ) ?_
  refine st ?_
  refine sr (Zag (f := Zf.cells) (Zf.cells_eq x53) ZCQ) ?_
  refine st ?_
  refine AWP.seq ?_
  obtain ⟨r54, ZEZ, hF⟩ := bind_some hF
  refine ns ?_
  refine Exists.intro [8] (Exists.intro [] (Exists.intro [] ?_))
  refine st ?_
  refine cm (Zk.weak (rn []) (ZoA ([(Zf.mk v r6)]) x53.fType _ ZEZ) rfl (WS.mk (tc (Zd (Zq (lc (lc (lc (lc Zn))))) Zb)) Zc)) ?_
  refine st ?_
  refine AWP.seq ?_
  refine AWP.seq ?_
  refine ns ?_
  refine nw ?_
  refine Zj hF (fun Zjv hF => ?_) (fun Zjv hF => ?_)
  ·refine AWP.seq ?_
   refine ns ?_
   obtain rfl := Zh hF
   refine ns ?_
   refine Exists.intro [(1000, 1000), (7001, 7001), (1002, 1002)] ?_
   refine st ?_
   exact wx (WS.mk (tc Zb) (Ze rfl (Zd3 (ZV (by first | exact rfl | simp only [List.length_set])) (cc Zg)) (Ze rfl (cc Zg) (Ze rfl (cc Zg) Zc))))
  ·refine nw ?_
   obtain ⟨x58, ZC1, hF⟩ := bind_some hF
   refine nn ?_
   refine Or.inl (Or.inl (Exists.intro 6 (Exists.intro [[], [], [], [], [], []] (Exists.intro [([46, 47, 48, 49, 50, 51], [], []), ([47, 48, 49, 50, 51], [], []), ([48, 49, 50, 51], [], []), ([49, 50, 51], [], []), ([46, 47, 48, 49, 50, 51], [], []), ([46, 47, 48, 49, 50, 51], [], [])] (Exists.intro [46, 47, 48, 49, 50, 51] (And.intro (by decide +kernel) ?_))))))
   refine dp ?_
   refine dp ?_
   refine dp ?_
   refine dp ?_
   refine dp ?_
   refine dp ?_
   refine st ?_
   refine And.intro (Zpq ZC1) ?_
   refine st ?_
   refine sr (Zag (f := Zf.cells) (Zf.cells_eq x58) ZC1) ?_
   refine Exists.intro ((ZA.set ZjN (Zf.mk x58.fName r54)).map Zf.cells) (And.intro (ZAR (Zem (Zf.cells_eq (Zf.mk x58.fName r54)) (lc (lc (lc (lc (lc Zn))))))) ?_)
   refine st ?_
   refine ns ?_
   refine AWL.weak (rn [(8, 8)]) ?_ (Zjc v r6 s (ZjN + 1) (ZA.set ZjN (Zf.mk x58.fName r54)) _ hF hlen34)
   exact (WS.mk (tp (tc (Zd (Zc9 rfl (WE.refl _)) (Zd (Zp (ZV (by first | exact rfl | simp only [List.length_set]))) (tc (Zd (Zp (Zc3 (ZX hlen34 ZEV))) Zb)))))) (Ze rfl (Zd3 (ZV (by first | exact rfl | simp only [List.length_set])) (cc Zg)) (Ze rfl (cc Zg) (Ze rfl (cc Zg) Zc))))
 ·refine nw ?_
  refine AWP.seq ?_
  refine nn ?_
  refine Or.inl (Or.inl (Exists.intro 10 (Exists.intro [[], [], [], [], [], [], [], [], [], []] (Exists.intro [([55, 56, 57, 58, 59, 60, 61, 62, 63, 64], [], []), ([56, 57, 58, 59, 60, 61, 62, 63, 64], [], []), ([57, 58, 59, 60, 61, 62, 63, 64], [], []), ([58, 59, 60, 61, 62, 63, 64], [], []), ([55, 56, 57, 58, 59, 60, 61, 62, 63, 64], [], []), ([55, 56, 57, 58, 59, 60, 61, 62, 63, 64], [], []), ([55, 56, 57, 58, 59, 61, 62, 63, 64], [], []), ([55, 56, 57, 58, 59, 62, 63, 64], [], []), ([55, 56, 57, 58, 59, 63, 64], [], []), ([55, 56, 57, 58, 59, 64], [], [])] (Exists.intro [55, 56, 57, 58, 59, 60, 61, 62, 63, 64] (And.intro (by decide +kernel) ?_))))))
  refine dp ?_
  refine dp ?_
  refine dp ?_
  refine dp ?_
  refine dp ?_
  refine dp ?_
  refine dp ?_
  refine dp ?_
  refine dp ?_
  refine dl ?_
  refine st ?_
  refine ZiK (m := s.fat) (k := v) (v := ((ZA.length : Nat) : Int)) Zeh (ev := Zba) (lc Zn) ?_
  refine st ?_
  refine AWP.seq ?_
  obtain ⟨ZBQ, hF⟩ := ZD hF
  refine nn ?_
  refine Or.inl (Or.inr (Exists.intro [0, 5, 6, 7, 8] (Exists.intro [[65, 70, 71, 72, 73], [65, 70, 71, 72, 73], [65, 71, 72, 73], [65, 72, 73], [65, 73]] (Exists.intro [] (Exists.intro [0, 8, 65, 70, 71, 72, 73] (Exists.intro [65, 70, 71, 72, 73] (Exists.intro [1, 2, 3, 4, 9, 10, 11, 12] (And.intro (by decide +kernel) ?_))))))))
  refine dp ?_
  refine dp ?_
  refine dp ?_
  refine dp ?_
  refine de (ZcZ (f := Zf.cells) (Zem (Zf.cells_eq (Zf.mk v r6)) (lc (lc (lc (lc (lc Zn)))))) (Zbb (f := Zf.cells))) ?_
  refine sa (fun l => Zc0 l (fun x => Zf.cells_len x)) ZBQ ?_
  refine Exists.intro (([(Zf.mk v r6)]).map Zf.cells) (Exists.intro ((ZA ++ ([(Zf.mk v r6)])).map Zf.cells) (Exists.intro (ZA ++ ([(Zf.mk v r6)])).length (And.intro (WE.refl _) (And.intro (Zp3 (by first | exact rfl | simp only [List.length_set])) (And.intro (ZpW (by first | exact rfl | simp only [List.length_set]) (by first | exact List.length_map _ | exact rfl)) ?_)))))
  refine st ?_
  refine AWP.seq ?_
  refine ns ?_
  obtain rfl := Zh hF
  refine ns ?_
  refine Exists.intro [(1000, 1000), (7001, 7001), (1002, 1002)] ?_
  refine st ?_
  exact wx (WS.mk (tc Zb) (Ze rfl (Zd3 (ZV (by first | exact rfl | simp only [List.length_set])) (cc Zg)) (Ze rfl (cc Zg) (Ze rfl (cc Zg) Zc))))

def Za5 (s : Zr) (v : ByteArray) (t : Za) : Option (Int × Zr) :=
 Zb9 s v t >>= fun r3 =>
 if r3 = true then
 some (23, s)
 else
 Zeb s.flist t >>= fun r6 =>
 if (r6.fOp == 0) = true then
 some (3, s)
 else
 Z1 v r6 s 0 s.flist
def Za5.M (s : Zr) (v : ByteArray) (t : Za) (r : Int × Zr) : Prop :=
 Zk Tryz.prog 53 [.ptr 1000 0, .c none (.v (.string v)), .agg [.v (.int .i64 t.fOp), .v (.string t.fName), .sl (t.fBound.fArgs.map Zi.cells), .sl (t.fKids.map Za.cells)]] [(1000, [(none, .rs 7001 s.flist.length), (none, .rf 1002)]), (1002, [(none, .ob 109 (s.fat.map (Zcj c_S Zba)))]), (7001, [(none, .ob 90 (s.flist.map Zf.cells))])] (fun d b => d = .c none (.v (.int .i64 r.1)) ∧ b = [(1000, [(none, .rs 7001 r.2.flist.length), (none, .rf 1002)]), (1002, [(none, .ob 109 (r.2.fat.map (Zcj c_S Zba)))]), (7001, [(none, .ob 90 (r.2.flist.map Zf.cells))])])
theorem Zhe (s : Zr) (v : ByteArray) (t : Za) (r : Int × Zr) (hF : Za5 s v t = some r) : Za5.M s v t r := by
 unfold Za5 at hF
 unfold Za5.M
 refine en Tryz.func53 ?_
 refine AWP.seq ?_
 refine ns ?_
 refine AWP.seq ?_
 refine AWP.seq ?_
 obtain ⟨r3, hr3, hF⟩ := bind_some hF
 refine ns ?_
 refine Exists.intro [] (Exists.intro [(1000, 1000), (7001, 1001), (1002, 1002)] (Exists.intro [] ?_))
 refine st ?_
 refine cm (Zk.weak (rn []) (Zkd s v t _ hr3) rfl (WS.mk (tp (tc (Zd (Zq (lc (lc (lc (lc Zn))))) Zb))) (Ze rfl (Zd3 (ZV (by first | exact rfl | simp only [List.length_set])) (cc Zg)) (Ze rfl (cc Zg) (Ze rfl (cc Zg) Zc))))) ?_
 refine st ?_
 refine nw ?_
 refine Zj hF (fun hc4 hF => ?_) (fun hc4 hF => ?_)
 ·refine AWP.seq ?_
  refine ns ?_
  obtain rfl := Zh hF
  refine ns ?_
  refine Exists.intro [(1000, 1000), (7001, 7001), (1002, 1002)] ?_
  refine st ?_
  exact wx (WS.mk (tc Zb) (Ze rfl (Zd3 (ZV (by first | exact rfl | simp only [List.length_set])) (cc Zg)) (Ze rfl (cc Zg) (Ze rfl (cc Zg) Zc))))
 ·refine nw ?_
  refine AWP.seq ?_
  obtain ⟨r6, hr6, hF⟩ := bind_some hF
  refine nn ?_
  refine Or.inl (Or.inl (Exists.intro 7 (Exists.intro [[], [], [], [], [], [7001], [7]] (Exists.intro [([16, 17, 18, 19, 20, 21, 7], [7], []), ([17, 18, 19, 20, 21, 7], [7], []), ([18, 19, 20, 21, 7], [7], []), ([19, 20, 21, 7], [7], []), ([16, 17, 18, 19, 20, 21, 7], [7], []), ([21, 7], [7], [7001]), ([16, 17, 18, 19, 20, 21, 7], [7001], [7])] (Exists.intro [16, 17, 18, 19, 20, 21, 7] (And.intro (by decide +kernel) ?_))))))
  refine dp ?_
  refine dp ?_
  refine dp ?_
  refine dp ?_
  refine dp ?_
  (refine st ?_; apply Exists.intro; apply Exists.intro; apply And.intro; (focus ((conv => whnf); refine Exists.intro [(7001, 1000)] ?_; (conv => whnf); refine And.intro rfl ?_; (conv => whnf); refine Zk.mono (Zk.weak (rn []) (Zp1 s.flist t _ hr6) rfl (WS.mk (Zd (Zp (ZV (by first | exact rfl | simp only [List.length_set]))) (Zd (Zq (lc (lc (lc (lc Zn))))) Zb)) (Ze rfl (cc Zg) Zc))) ?_; rintro d b ⟨rfl, rfl⟩; exact And.intro rfl (And.intro rfl rfl))); apply And.intro; (focus exact rfl); (conv => whnf))
  refine dp ?_
  refine st ?_
  refine AWP.seq ?_
  refine AWP.seq ?_
  refine ns ?_
  refine nw ?_
  refine Zj hF (fun hc8 hF => ?_) (fun hc8 hF => ?_)
  ·refine AWP.seq ?_
   refine ns ?_
   obtain rfl := Zh hF
   refine ns ?_
   refine Exists.intro [(1000, 1000), (7001, 7001), (1002, 1002)] ?_
   refine st ?_
   exact wx (WS.mk (tc Zb) (Ze rfl (Zd3 (ZV (by first | exact rfl | simp only [List.length_set])) (cc Zg)) (Ze rfl (cc Zg) (Ze rfl (cc Zg) Zc))))
  ·refine nw ?_
   refine AWP.seq ?_
   refine ns ?_
   refine Exists.intro _ (And.intro (ZcZ (f := Zf.cells) (Zem (Zf.cells_eq (Zf.mk v r6)) (lc (lc (lc (lc (lc Zn)))))) (Zbb (f := Zf.cells))) ?_)
   refine st ?_
   refine AWP.seq ?_
   refine AWP.seq ?_
   refine ns ?_
   intro hlen34
   (try rw [List.length_map] at hlen34)
   (try rw [List.length_map])
   refine st ?_
   refine AWP.block ?_
   refine AWP.loop ?_
   refine AWL.weak (rn [(28, 8)]) ?_ (Zjh v r6 s 0 s.flist _ hF hlen34)
   exact (WS.mk (tp (tc (Zd (Zc9 rfl (WE.refl _)) (Zd (Zp (ZV (by first | exact rfl | simp only [List.length_set]))) (tc (tc Zb)))))) (Ze rfl (Zd3 (ZV (by first | exact rfl | simp only [List.length_set])) (cc Zg)) (Ze rfl (cc Zg) (Ze rfl (cc Zg) Zc))))

mutual
def ZJ (Zaq : (List (ByteArray × Int))) (ZA : (List Zf)) (Zbi : (List Zo)) : Option (Int × Zr × (List Zo)) :=
 if (decide (((Zbi.length : Nat) : Int) > 0)) = true then
 (ixI Zbi (IntKind.i64.wrap (((Zbi.length : Nat) : Int) - 1))) >>= fun ZzD =>
 Zas (Zr.mk ZA Zaq) ZzD.e0 >>= fun Zgh =>
 (ixI Zbi (IntKind.i64.wrap (((Zbi.length : Nat) : Int) - 1))) >>= fun Zzf =>
 Zas (Zr.mk ZA Zaq) Zzf.e1 >>= fun Zgf =>
 (slL Zbi ((0 : Nat) : Int) (IntKind.i64.wrap (((Zbi.length : Nat) : Int) - 1))) >>= fun ZhV =>
 if (((Zgh.fOp == 1) && (Zgf.fOp == 1)) && (Zgh.fName.toList == Zgf.fName.toList)) = true then
 Zv 0 Zaq ZA ZhV
 else
 if (Zgh.fOp == 1) = true then
 Za5 (Zr.mk ZA Zaq) Zgh.fName Zgf >>= fun Zur =>
 Zv Zur.1 Zur.2.fat Zur.2.flist ZhV
 else
 if (Zgf.fOp == 1) = true then
 Za5 (Zr.mk ZA Zaq) Zgf.fName Zgh >>= fun Zt7 =>
 Zv Zt7.1 Zt7.2.fat Zt7.2.flist ZhV
 else
 if (((Zgh.fOp == 2) && (Zgf.fOp == 2)) && (Zgh.fName.toList == Zgf.fName.toList)) = true then
 Zv 0 Zaq ZA ZhV
 else
 if ((Zgh.fOp == 3) && (Zgf.fOp == 3)) = true then
 (ixI Zgh.fKids 1) >>= fun Zsf =>
 (ixI Zgf.fKids 1) >>= fun ZrP =>
 (ixI Zgh.fKids 0) >>= fun Zsz =>
 (ixI Zgf.fKids 0) >>= fun ZrO =>
 Zac ((ZhV.length + ([(Zo.mk Zsf ZrP), (Zo.mk Zsz ZrO)]).length) * 144 ≤ 140737488355328) >>= fun _ =>
 Zv 0 Zaq ZA (ZhV ++ ([(Zo.mk Zsf ZrP), (Zo.mk Zsz ZrO)]))
 else
 Zv 22 Zaq ZA ZhV
 else
 some (0, Zr.mk ZA Zaq, Zbi)
 partial_fixpoint
def Zv (e_7 : Int) (Zaq : (List (ByteArray × Int))) (ZA : (List Zf)) (Zbi : (List Zo)) : Option (Int × Zr × (List Zo)) :=
 if (e_7 != 0) = true then
 some (e_7, Zr.mk ([] : List Zf) ([] : List (ByteArray × Int)), Zbi)
 else
 ZJ Zaq ZA Zbi
 partial_fixpoint
end
def ZJ.M (Zaq : (List (ByteArray × Int))) (ZA : (List Zf)) (Zbi : (List Zo)) (r : Int × Zr × (List Zo)) : Prop :=
 AWL Tryz.prog 124 (Code.sub (Zs Tryz.f32) [1, 0, 0, 0]) (Code.cont Tryz.prog 124 (Zs Tryz.f32) [1, 0, 0] (Zce tab Tryz.f32.results (Zch (.c none (.v (.int .i64 r.1))) [(1000, [(none, .rs 7001 r.2.1.flist.length), (none, .rf 1002)]), (1002, [(none, .ob 109 (r.2.1.fat.map (Zcj c_S Zba)))]), (7001, [(none, .ob 90 (r.2.1.flist.map Zf.cells))]), (7003, [(none, .ob 76 (r.2.2.map Zo.cells))])]))) ⟨[(0, .ptr 1000 0), (1, .c none (.rs 7003 Zbi.length))], [(1000, [(none, .rs 7001 ZA.length), (none, .rf 1002)]), (1002, [(none, .ob 109 (Zaq.map (Zcj c_S Zba)))]), (7001, [(none, .ob 90 (ZA.map Zf.cells))]), (7003, [(none, .ob 76 (Zbi.map Zo.cells))])]⟩
def Zv.M (e_7 : Int) (Zaq : (List (ByteArray × Int))) (ZA : (List Zf)) (Zbi : (List Zo)) (r : Int × Zr × (List Zo)) : Prop :=
 AWP Tryz.prog 124 (Code.sub (Zs Tryz.f32) [1, 0, 0, 0, 1, 0, 1, 1, 1, 1]) (Code.cont Tryz.prog 124 (Zs Tryz.f32) [1, 0, 0, 0, 1, 0, 1, 1, 1, 1] (Zce tab Tryz.f32.results (Zch (.c none (.v (.int .i64 r.1))) [(1000, [(none, .rs 7001 r.2.1.flist.length), (none, .rf 1002)]), (1002, [(none, .ob 109 (r.2.1.fat.map (Zcj c_S Zba)))]), (7001, [(none, .ob 90 (r.2.1.flist.map Zf.cells))]), (7003, [(none, .ob 76 (r.2.2.map Zo.cells))])]))) ⟨[(0, .ptr 1000 0), (1, .c none (.rs 7003 Zbi.length)), (7, .c none (.v (.int .i64 e_7)))], [(1000, [(none, .rs 7001 ZA.length), (none, .rf 1002)]), (1002, [(none, .ob 109 (Zaq.map (Zcj c_S Zba)))]), (7001, [(none, .ob 90 (ZA.map Zf.cells))]), (7003, [(none, .ob 76 (Zbi.map Zo.cells))])]⟩
theorem Ziv : (∀ (Zaq : (List (ByteArray × Int))) (ZA : (List Zf)) (Zbi : (List Zo)), ∀ r, ZJ Zaq ZA Zbi = some r → ZJ.M Zaq ZA Zbi r) ∧ (∀ (e_7 : Int) (Zaq : (List (ByteArray × Int))) (ZA : (List Zf)) (Zbi : (List Zo)), ∀ r, Zv e_7 Zaq ZA Zbi = some r → Zv.M e_7 Zaq ZA Zbi r) := by
 refine ZJ.mutual_partial_correctness ZJ.M Zv.M ?_ ?_
 ·intro unify_solver_solve_k2' Zb3 Zaq ZA Zbi r hF
  unfold ZJ.M
  refine AWL.step ?_
  refine AWP.seq ?_
  refine AWP.seq ?_
  refine ns ?_
  intro hlen101
  (try rw [List.length_map] at hlen101)
  (try rw [List.length_map])
  refine st ?_
  refine nw ?_
  refine Zj hF (fun ZB2 hF => ?_) (fun ZB2 hF => ?_)
  ·refine nw ?_
   refine AWP.block ?_
   refine AWP.seq ?_
   obtain ⟨ZzD, ZBu, ZzN, hF⟩ := Zeo hF
   obtain ⟨Zgh, ZB3, hF⟩ := bind_some hF
   obtain ⟨Zzf, ZAG, ZzM, hF⟩ := Zeo hF
   obtain ⟨Zgf, ZCn, hF⟩ := bind_some hF
   refine nn ?_
   refine Or.inl (Or.inl (Exists.intro 20 (Exists.intro [[], [], [], [], [], [], [], [], [1000, 7001, 1002], [], [], [], [], [], [], [], [], [1000, 7001, 1002], [5], [6]] (Exists.intro [([11, 12, 13, 14, 15, 16, 17, 18, 19, 20, 21, 22, 23, 24, 25, 26, 27, 28, 5, 6], [5, 6], []), ([11, 12, 13, 14, 15, 16, 17, 18, 19, 20, 21, 22, 23, 24, 25, 26, 27, 28, 5, 6], [5, 6], []), ([11, 12, 13, 14, 15, 16, 17, 18, 19, 20, 21, 22, 23, 24, 25, 26, 27, 28, 5, 6], [5, 6], []), ([11, 12, 14, 15, 16, 17, 18, 19, 20, 21, 22, 23, 24, 25, 26, 27, 28, 5, 6], [5, 6], []), ([11, 12, 15, 16, 17, 18, 19, 20, 21, 22, 23, 24, 25, 26, 27, 28, 5, 6], [5, 6], []), ([11, 16, 17, 18, 19, 20, 21, 22, 23, 24, 25, 26, 27, 28, 5, 6], [5, 6], []), ([11, 17, 18, 19, 20, 21, 22, 23, 24, 25, 26, 27, 28, 5, 6], [5, 6], []), ([11, 18, 19, 20, 21, 22, 23, 24, 25, 26, 27, 28, 5, 6], [5, 6], []), ([19, 20, 21, 22, 23, 24, 25, 26, 27, 28, 5, 6], [5, 6], [1000, 7001, 1002]), ([11, 12, 13, 14, 15, 16, 17, 18, 19, 20, 21, 22, 23, 24, 25, 26, 27, 28, 5, 6], [1000, 7001, 1002, 5, 6], []), ([11, 12, 13, 14, 15, 16, 17, 18, 19, 20, 21, 22, 23, 24, 25, 26, 27, 28, 5, 6], [1000, 7001, 1002, 5, 6], []), ([11, 12, 13, 14, 15, 16, 17, 18, 19, 20, 21, 22, 23, 24, 25, 26, 27, 28, 5, 6], [1000, 7001, 1002, 5, 6], []), ([11, 12, 13, 14, 15, 16, 17, 18, 19, 20, 21, 23, 24, 25, 26, 27, 28, 5, 6], [1000, 7001, 1002, 5, 6], []), ([11, 12, 13, 14, 15, 16, 17, 18, 19, 20, 21, 24, 25, 26, 27, 28, 5, 6], [1000, 7001, 1002, 5, 6], []), ([11, 12, 13, 14, 15, 16, 17, 18, 19, 20, 25, 26, 27, 28, 5, 6], [1000, 7001, 1002, 5, 6], []), ([11, 12, 13, 14, 15, 16, 17, 18, 19, 20, 26, 27, 28, 5, 6], [1000, 7001, 1002, 5, 6], []), ([11, 12, 13, 14, 15, 16, 17, 18, 19, 20, 27, 28, 5, 6], [1000, 7001, 1002, 5, 6], []), ([28, 5, 6], [5, 6], [1000, 7001, 1002]), ([11, 12, 13, 14, 15, 16, 17, 18, 19, 20, 21, 22, 23, 24, 25, 26, 27, 28, 5, 6], [1000, 7001, 1002, 1000, 7001, 1002, 6], [5]), ([11, 12, 13, 14, 15, 16, 17, 18, 19, 20, 21, 22, 23, 24, 25, 26, 27, 28, 5, 6], [1000, 7001, 1002, 1000, 7001, 1002, 5], [6])] (Exists.intro [11, 12, 13, 14, 15, 16, 17, 18, 19, 20, 21, 22, 23, 24, 25, 26, 27, 28, 5, 6] (And.intro (by decide +kernel) ?_))))))
   refine dp ?_
   refine dp ?_
   refine dp ?_
   refine dl ?_
   refine dp ?_
   refine da (Zp0 ZBu ZzN) ?_
   refine dp ?_
   refine dr (ZdC (Zo.cells_eq ZzD) ZzN) ?_
   (refine st ?_; apply Exists.intro; apply Exists.intro; apply And.intro; (focus ((conv => whnf); refine Exists.intro [(1000, 1000), (7001, 1001), (1002, 1002)] ?_; (conv => whnf); refine And.intro rfl ?_; (conv => whnf); refine Zk.mono (Zk.weak (rn []) (ZfD (Zr.mk ZA Zaq) ZzD.e0 _ ZB3) rfl (WS.mk (tp (Zd (Zq (lc (lc (lc (lc Zn))))) Zb)) (Ze rfl (Zd3 (ZV (by first | exact rfl | simp only [List.length_set])) (cc Zg)) (Ze rfl (cc Zg) (Ze rfl (cc Zg) Zc))))) ?_; rintro d b ⟨rfl, rfl⟩; exact And.intro rfl (And.intro rfl rfl))); apply And.intro; (focus exact rfl); (conv => whnf))
   refine dp ?_
   refine dp ?_
   refine dp ?_
   refine dl ?_
   refine dp ?_
   refine da (Zp0 ZAG ZzM) ?_
   refine dp ?_
   refine dr (ZdC (Zo.cells_eq Zzf) ZzM) ?_
   (refine st ?_; apply Exists.intro; apply Exists.intro; apply And.intro; (focus ((conv => whnf); refine Exists.intro [(1000, 1000), (7001, 1001), (1002, 1002)] ?_; (conv => whnf); refine And.intro rfl ?_; (conv => whnf); refine Zk.mono (Zk.weak (rn []) (ZfD (Zr.mk ZA Zaq) Zzf.e1 _ ZCn) rfl (WS.mk (tp (Zd (Zq (lc (lc (lc (lc Zn))))) Zb)) (Ze rfl (Zd3 (ZV (by first | exact rfl | simp only [List.length_set])) (cc Zg)) (Ze rfl (cc Zg) (Ze rfl (cc Zg) Zc))))) ?_; rintro d b ⟨rfl, rfl⟩; exact And.intro rfl (And.intro rfl rfl))); apply And.intro; (focus exact rfl); (conv => whnf))
   refine dp ?_
   refine dp ?_
   refine st ?_
   refine AWP.seq ?_
   obtain ⟨ZhV, ZAZ, ZAC, Zx9, ZzQ, hF⟩ := ZxI hF
   refine ns ?_
   intro hlen111
   (try rw [List.length_map] at hlen111)
   (try rw [List.length_map])
   refine s3 ZAZ ZAC Zx9 ?_
   refine Exists.intro (ZhV.map Zo.cells) (Exists.intro ZhV.length (And.intro (ZCP ZzQ) (And.intro (Zz0 Zx9 ZzQ) ?_)))
   refine st ?_
   refine AWP.seq ?_
   refine ns ?_
   refine AWP.seq ?_
   refine AWP.block ?_
   refine AWP.seq ?_
   refine AWP.cutN (fun T => ∃ r, WS r T ⟨[(0, .ptr 1000 0), (1, .c none (.rs 7003 ZhV.length)), (5, .ptr 5 0), (6, .ptr 6 0), (7, .c none (.v (.int .i64 0))), (34, .c none (.v (.bool (((Zgh.fOp == 1) && (Zgf.fOp == 1)) && (Zgh.fName.toList == Zgf.fName.toList)))))], [(5, [(none, .v (.int .i64 Zgh.fOp)), (none, .v (.string Zgh.fName)), (none, .sl (Zgh.fBound.fArgs.map Zi.cells)), (none, .sl (Zgh.fKids.map Za.cells))]), (6, [(none, .v (.int .i64 Zgf.fOp)), (none, .v (.string Zgf.fName)), (none, .sl (Zgf.fBound.fArgs.map Zi.cells)), (none, .sl (Zgf.fKids.map Za.cells))]), (1000, [(none, .rs 7001 ZA.length), (none, .rf 1002)]), (1002, [(none, .ob 109 (Zaq.map (Zcj c_S Zba)))]), (7001, [(none, .ob 90 (ZA.map Zf.cells))]), (7003, [(none, .ob 76 (ZhV.map Zo.cells))])]⟩) ?_ (fun T hw => ?_)
   ·refine ns ?_
    refine Zl true (fun ZvY => ?_) (fun ZvY => ?_)
    ·(conv => whnf)
     refine st ?_
     refine Zl true (fun ZxN => ?_) (fun ZxN => ?_)
     ·(conv => whnf)
      refine st ?_
      exact wx (WS.mk (tp (Zd (Zp (ZV (by first | exact rfl | simp only [List.length_set]))) (tp (tp (tc (Zd (Zp (web (And.intro ZvY ZxN))) Zb)))))) (Ze rfl (cc (cc (cc (cc Zg)))) (Ze rfl (cc (cc (cc (cc Zg)))) (Ze rfl (Zd3 (ZV (by first | exact rfl | simp only [List.length_set])) (cc Zg)) (Ze rfl (cc Zg) (Ze rfl (cc Zg) (Ze rfl (cc Zg) Zc)))))))
     ·(conv => whnf)
      refine st ?_
      exact wx (WS.mk (tp (Zd (Zp (ZV (by first | exact rfl | simp only [List.length_set]))) (tp (tp (tc (Zd (Zp (web (And.intro ZvY ZxN))) Zb)))))) (Ze rfl (cc (cc (cc (cc Zg)))) (Ze rfl (cc (cc (cc (cc Zg)))) (Ze rfl (Zd3 (ZV (by first | exact rfl | simp only [List.length_set])) (cc Zg)) (Ze rfl (cc Zg) (Ze rfl (cc Zg) (Ze rfl (cc Zg) Zc)))))))
    ·(conv => whnf)
     refine st ?_
     exact wx (WS.mk (tp (Zd (Zp (ZV (by first | exact rfl | simp only [List.length_set]))) (tp (tp (tc (Zd (Zp (web ZvY)) Zb)))))) (Ze rfl (cc (cc (cc (cc Zg)))) (Ze rfl (cc (cc (cc (cc Zg)))) (Ze rfl (Zd3 (ZV (by first | exact rfl | simp only [List.length_set])) (cc Zg)) (Ze rfl (cc Zg) (Ze rfl (cc Zg) (Ze rfl (cc Zg) Zc)))))))
   obtain ⟨r0, hw⟩ := hw
   (conv => whnf)
   refine AWP.weak r0 hw ?_
   refine nw ?_
   refine Zj hF (fun ZBW hF => ?_) (fun ZBW hF => ?_)
   ·refine nw ?_
    refine AWP.weak (rn []) ?_ (Zb3 0 Zaq ZA ZhV _ hF)
    exact (WS.mk (tp (Zd (Zp (ZV (by first | exact rfl | simp only [List.length_set]))) (tc Zb))) (Ze rfl (Zd3 (ZV (by first | exact rfl | simp only [List.length_set])) (cc Zg)) (Ze rfl (cc Zg) (Ze rfl (cc Zg) (Ze rfl (cc Zg) Zc)))))
   ·refine AWP.seq ?_
    refine ns ?_
    refine nw ?_
    refine Zj hF (fun ZCx hF => ?_) (fun ZCx hF => ?_)
    ·obtain ⟨Zur, ZCv, hF⟩ := bind_some hF
     refine ns ?_
     refine Exists.intro [] (Exists.intro [(1000, 1000), (7001, 7001), (1002, 1002)] (Exists.intro [] ?_))
     refine st ?_
     refine cm (Zk.weak (rn []) (Zhe (Zr.mk ZA Zaq) Zgh.fName Zgf _ ZCv) rfl (WS.mk (tp (tc (Zd (Zq (lc (lc (lc (lc Zn))))) Zb))) (Ze rfl (Zd3 (ZV (by first | exact rfl | simp only [List.length_set])) (cc Zg)) (Ze rfl (cc Zg) (Ze rfl (cc Zg) Zc))))) ?_
     refine st ?_
     refine AWP.weak (rn []) ?_ (Zb3 Zur.1 Zur.2.fat Zur.2.flist ZhV _ hF)
     exact (WS.mk (tp (Zd (Zp (ZV (by first | exact rfl | simp only [List.length_set]))) (tc Zb))) (Ze rfl (Zd3 (ZV (by first | exact rfl | simp only [List.length_set])) (cc Zg)) (Ze rfl (cc Zg) (Ze rfl (cc Zg) (Ze rfl (cc Zg) Zc)))))
    ·refine AWP.seq ?_
     refine ns ?_
     refine nw ?_
     refine Zj hF (fun ZCw hF => ?_) (fun ZCw hF => ?_)
     ·obtain ⟨Zt7, ZCK, hF⟩ := bind_some hF
      refine ns ?_
      refine Exists.intro [] (Exists.intro [(1000, 1000), (7001, 7001), (1002, 1002)] (Exists.intro [] ?_))
      refine st ?_
      refine cm (Zk.weak (rn []) (Zhe (Zr.mk ZA Zaq) Zgf.fName Zgh _ ZCK) rfl (WS.mk (tp (tc (Zd (Zq (lc (lc (lc (lc Zn))))) Zb))) (Ze rfl (Zd3 (ZV (by first | exact rfl | simp only [List.length_set])) (cc Zg)) (Ze rfl (cc Zg) (Ze rfl (cc Zg) Zc))))) ?_
      refine st ?_
      refine AWP.weak (rn []) ?_ (Zb3 Zt7.1 Zt7.2.fat Zt7.2.flist ZhV _ hF)
      exact (WS.mk (tp (Zd (Zp (ZV (by first | exact rfl | simp only [List.length_set]))) (tc Zb))) (Ze rfl (Zd3 (ZV (by first | exact rfl | simp only [List.length_set])) (cc Zg)) (Ze rfl (cc Zg) (Ze rfl (cc Zg) (Ze rfl (cc Zg) Zc)))))
     ·refine AWP.seq ?_
      refine AWP.cutN (fun T => ∃ r, WS r T ⟨[(0, .ptr 1000 0), (1, .c none (.rs 7003 ZhV.length)), (5, .ptr 5 0), (6, .ptr 6 0), (7, .c none (.v (.int .i64 0))), (68, .c none (.v (.bool (((Zgh.fOp == 2) && (Zgf.fOp == 2)) && (Zgh.fName.toList == Zgf.fName.toList)))))], [(5, [(none, .v (.int .i64 Zgh.fOp)), (none, .v (.string Zgh.fName)), (none, .sl (Zgh.fBound.fArgs.map Zi.cells)), (none, .sl (Zgh.fKids.map Za.cells))]), (6, [(none, .v (.int .i64 Zgf.fOp)), (none, .v (.string Zgf.fName)), (none, .sl (Zgf.fBound.fArgs.map Zi.cells)), (none, .sl (Zgf.fKids.map Za.cells))]), (1000, [(none, .rs 7001 ZA.length), (none, .rf 1002)]), (1002, [(none, .ob 109 (Zaq.map (Zcj c_S Zba)))]), (7001, [(none, .ob 90 (ZA.map Zf.cells))]), (7003, [(none, .ob 76 (ZhV.map Zo.cells))])]⟩) ?_ (fun T hw => ?_)
      ·refine ns ?_
       refine Zl true (fun ZuS => ?_) (fun ZuS => ?_)
       ·(conv => whnf)
        refine st ?_
        refine Zl true (fun Zx5 => ?_) (fun Zx5 => ?_)
        ·(conv => whnf)
         refine st ?_
         exact wx (WS.mk (tp (Zd (Zp (ZV (by first | exact rfl | simp only [List.length_set]))) (tp (tp (tc (Zd (Zp (web (And.intro ZuS Zx5))) Zb)))))) (Ze rfl (cc (cc (cc (cc Zg)))) (Ze rfl (cc (cc (cc (cc Zg)))) (Ze rfl (Zd3 (ZV (by first | exact rfl | simp only [List.length_set])) (cc Zg)) (Ze rfl (cc Zg) (Ze rfl (cc Zg) (Ze rfl (cc Zg) Zc)))))))
        ·(conv => whnf)
         refine st ?_
         exact wx (WS.mk (tp (Zd (Zp (ZV (by first | exact rfl | simp only [List.length_set]))) (tp (tp (tc (Zd (Zp (web (And.intro ZuS Zx5))) Zb)))))) (Ze rfl (cc (cc (cc (cc Zg)))) (Ze rfl (cc (cc (cc (cc Zg)))) (Ze rfl (Zd3 (ZV (by first | exact rfl | simp only [List.length_set])) (cc Zg)) (Ze rfl (cc Zg) (Ze rfl (cc Zg) (Ze rfl (cc Zg) Zc)))))))
       ·(conv => whnf)
        refine st ?_
        exact wx (WS.mk (tp (Zd (Zp (ZV (by first | exact rfl | simp only [List.length_set]))) (tp (tp (tc (Zd (Zp (web ZuS)) Zb)))))) (Ze rfl (cc (cc (cc (cc Zg)))) (Ze rfl (cc (cc (cc (cc Zg)))) (Ze rfl (Zd3 (ZV (by first | exact rfl | simp only [List.length_set])) (cc Zg)) (Ze rfl (cc Zg) (Ze rfl (cc Zg) (Ze rfl (cc Zg) Zc)))))))
      obtain ⟨r0, hw⟩ := hw
      (conv => whnf)
      refine AWP.weak r0 hw ?_
      refine nw ?_
      refine Zj hF (fun ZC3 hF => ?_) (fun ZC3 hF => ?_)
      ·refine nw ?_
       refine AWP.weak (rn []) ?_ (Zb3 0 Zaq ZA ZhV _ hF)
       exact (WS.mk (tp (Zd (Zp (ZV (by first | exact rfl | simp only [List.length_set]))) (tc Zb))) (Ze rfl (Zd3 (ZV (by first | exact rfl | simp only [List.length_set])) (cc Zg)) (Ze rfl (cc Zg) (Ze rfl (cc Zg) (Ze rfl (cc Zg) Zc)))))
      ·refine AWP.seq ?_
       refine AWP.cutN (fun T => ∃ r, WS r T ⟨[(0, .ptr 1000 0), (1, .c none (.rs 7003 ZhV.length)), (5, .ptr 5 0), (6, .ptr 6 0), (7, .c none (.v (.int .i64 0))), (84, .c none (.v (.bool ((Zgh.fOp == 3) && (Zgf.fOp == 3)))))], [(5, [(none, .v (.int .i64 Zgh.fOp)), (none, .v (.string Zgh.fName)), (none, .sl (Zgh.fBound.fArgs.map Zi.cells)), (none, .sl (Zgh.fKids.map Za.cells))]), (6, [(none, .v (.int .i64 Zgf.fOp)), (none, .v (.string Zgf.fName)), (none, .sl (Zgf.fBound.fArgs.map Zi.cells)), (none, .sl (Zgf.fKids.map Za.cells))]), (1000, [(none, .rs 7001 ZA.length), (none, .rf 1002)]), (1002, [(none, .ob 109 (Zaq.map (Zcj c_S Zba)))]), (7001, [(none, .ob 90 (ZA.map Zf.cells))]), (7003, [(none, .ob 76 (ZhV.map Zo.cells))])]⟩) ?_ (fun T hw => ?_)
       ·refine ns ?_
        refine Zl true (fun ZxM => ?_) (fun ZxM => ?_)
        ·(conv => whnf)
         refine st ?_
         exact wx (WS.mk (tp (Zd (Zp (ZV (by first | exact rfl | simp only [List.length_set]))) (tp (tp (tc (Zd (Zp (web ZxM)) Zb)))))) (Ze rfl (cc (cc (cc (cc Zg)))) (Ze rfl (cc (cc (cc (cc Zg)))) (Ze rfl (Zd3 (ZV (by first | exact rfl | simp only [List.length_set])) (cc Zg)) (Ze rfl (cc Zg) (Ze rfl (cc Zg) (Ze rfl (cc Zg) Zc)))))))
        ·(conv => whnf)
         refine st ?_
         exact wx (WS.mk (tp (Zd (Zp (ZV (by first | exact rfl | simp only [List.length_set]))) (tp (tp (tc (Zd (Zp (web ZxM)) Zb)))))) (Ze rfl (cc (cc (cc (cc Zg)))) (Ze rfl (cc (cc (cc (cc Zg)))) (Ze rfl (Zd3 (ZV (by first | exact rfl | simp only [List.length_set])) (cc Zg)) (Ze rfl (cc Zg) (Ze rfl (cc Zg) (Ze rfl (cc Zg) Zc)))))))
       obtain ⟨r0, hw⟩ := hw
       (conv => whnf)
       refine AWP.weak r0 hw ?_
       refine nw ?_
       refine Zj hF (fun ZDg hF => ?_) (fun ZDg hF => ?_)
       ·obtain ⟨Zsf, hx1480, ZCu, hF⟩ := Zeo hF
        obtain ⟨ZrP, hx1490, ZCe, hF⟩ := Zeo hF
        obtain ⟨Zsz, hx1500, ZzR, hF⟩ := Zeo hF
        obtain ⟨ZrO, hx1510, ZBY, hF⟩ := Zeo hF
        obtain ⟨ZCC, hF⟩ := ZD hF
        refine nn ?_
        refine Or.inl (Or.inl (Exists.intro 20 (Exists.intro [[], [], [], [], [], [], [], [], [], [], [], [], [], [], [], [], [], [], [], []] (Exists.intro [([93, 94, 95, 96, 97, 98, 99, 100, 101, 102, 103, 104, 105, 106, 107, 108, 109, 110, 111, 112], [], []), ([93, 94, 95, 96, 97, 98, 99, 100, 101, 102, 103, 104, 105, 106, 107, 108, 109, 110, 111, 112], [], []), ([93, 95, 96, 97, 98, 99, 100, 101, 102, 103, 104, 105, 106, 107, 108, 109, 110, 111, 112], [], []), ([93, 96, 97, 98, 99, 100, 101, 102, 103, 104, 105, 106, 107, 108, 109, 110, 111, 112], [], []), ([93, 97, 98, 99, 100, 101, 102, 103, 104, 105, 106, 107, 108, 109, 110, 111, 112], [], []), ([93, 94, 95, 96, 97, 98, 99, 100, 101, 102, 103, 104, 105, 106, 107, 108, 109, 110, 111, 112], [], []), ([93, 94, 95, 96, 97, 99, 100, 101, 102, 103, 104, 105, 106, 107, 108, 109, 110, 111, 112], [], []), ([93, 94, 95, 96, 97, 100, 101, 102, 103, 104, 105, 106, 107, 108, 109, 110, 111, 112], [], []), ([93, 94, 95, 96, 97, 101, 102, 103, 104, 105, 106, 107, 108, 109, 110, 111, 112], [], []), ([93, 102, 103, 104, 105, 106, 107, 108, 109, 110, 111, 112], [], []), ([93, 94, 95, 96, 97, 98, 99, 100, 101, 102, 103, 104, 105, 106, 107, 108, 109, 110, 111, 112], [], []), ([93, 94, 95, 96, 97, 98, 99, 100, 101, 102, 104, 105, 106, 107, 108, 109, 110, 111, 112], [], []), ([93, 94, 95, 96, 97, 98, 99, 100, 101, 102, 105, 106, 107, 108, 109, 110, 111, 112], [], []), ([93, 94, 95, 96, 97, 98, 99, 100, 101, 102, 106, 107, 108, 109, 110, 111, 112], [], []), ([93, 94, 95, 96, 97, 98, 99, 100, 101, 102, 103, 104, 105, 106, 107, 108, 109, 110, 111, 112], [], []), ([93, 94, 95, 96, 97, 98, 99, 100, 101, 102, 103, 104, 105, 106, 108, 109, 110, 111, 112], [], []), ([93, 94, 95, 96, 97, 98, 99, 100, 101, 102, 103, 104, 105, 106, 109, 110, 111, 112], [], []), ([93, 94, 95, 96, 97, 98, 99, 100, 101, 102, 103, 104, 105, 106, 110, 111, 112], [], []), ([93, 94, 95, 96, 97, 98, 99, 100, 101, 102, 111, 112], [], []), ([93, 112], [], [])] (Exists.intro [93, 94, 95, 96, 97, 98, 99, 100, 101, 102, 103, 104, 105, 106, 107, 108, 109, 110, 111, 112] (And.intro (by decide +kernel) ?_))))))
        refine dp ?_
        refine dp ?_
        refine dp ?_
        refine dr (ZdC (Za.cells_eq Zsf) ZCu) ?_
        refine dp ?_
        refine dp ?_
        refine dp ?_
        refine dr (ZdC (Za.cells_eq ZrP) ZCe) ?_
        refine dp ?_
        refine dp ?_
        refine dp ?_
        refine dp ?_
        refine dr (ZdC (Za.cells_eq Zsz) ZzR) ?_
        refine dp ?_
        refine dp ?_
        refine dp ?_
        refine dr (ZdC (Za.cells_eq ZrO) ZBY) ?_
        refine dp ?_
        refine dp ?_
        refine de (ZcZ (f := Zo.cells) (Zem (Zo.cells_eq (Zo.mk Zsf ZrP)) (lc (lc (lc (lc (lc (lc (lc (lc Zn))))))))) (ZcZ (f := Zo.cells) (Zem (Zo.cells_eq (Zo.mk Zsz ZrO)) (lc (lc (lc (lc (lc (lc (lc (lc Zn))))))))) (Zbb (f := Zo.cells)))) ?_
        refine sa (fun l => Zc0 l (fun x => Zo.cells_len x)) ZCC ?_
        refine Exists.intro (([(Zo.mk Zsf ZrP), (Zo.mk Zsz ZrO)]).map Zo.cells) (Exists.intro ((ZhV ++ ([(Zo.mk Zsf ZrP), (Zo.mk Zsz ZrO)])).map Zo.cells) (Exists.intro (ZhV ++ ([(Zo.mk Zsf ZrP), (Zo.mk Zsz ZrO)])).length (And.intro (WE.refl _) (And.intro (Zp3 (by first | exact rfl | simp only [List.length_set])) (And.intro (ZpW (by first | exact rfl | simp only [List.length_set]) (by first | exact List.length_map _ | exact rfl)) ?_)))))
        refine st ?_
        refine AWP.weak (rn []) ?_ (Zb3 0 Zaq ZA (ZhV ++ ([(Zo.mk Zsf ZrP), (Zo.mk Zsz ZrO)])) _ hF)
        exact (WS.mk (tp (Zd (Zp (ZV (by first | exact rfl | simp only [List.length_set]))) (tc Zb))) (Ze rfl (Zd3 (ZV (by first | exact rfl | simp only [List.length_set])) (cc Zg)) (Ze rfl (cc Zg) (Ze rfl (cc Zg) (Ze rfl (cc Zg) Zc)))))
       ·refine ns ?_
        refine AWP.weak (rn []) ?_ (Zb3 22 Zaq ZA ZhV _ hF)
        exact (WS.mk (tp (Zd (Zp (ZV (by first | exact rfl | simp only [List.length_set]))) (tc Zb))) (Ze rfl (Zd3 (ZV (by first | exact rfl | simp only [List.length_set])) (cc Zg)) (Ze rfl (cc Zg) (Ze rfl (cc Zg) (Ze rfl (cc Zg) Zc)))))
  ·refine nw ?_
   refine AWP.seq ?_
   refine ns ?_
   obtain rfl := Zh hF
   refine ns ?_
   refine Exists.intro [(1000, 1000), (7001, 7001), (1002, 1002), (7003, 7003)] ?_
   refine st ?_
   exact wx (WS.mk (tc Zb) (Ze rfl (Zd3 (ZV (by first | exact rfl | simp only [List.length_set])) (cc Zg)) (Ze rfl (cc Zg) (Ze rfl (cc Zg) (Ze rfl (cc Zg) Zc)))))
 ·intro unify_solver_solve_l1' ZiW e_7 Zaq ZA Zbi r hF
  unfold Zv.M
  refine AWP.seq ?_
  refine ns ?_
  refine nw ?_
  refine Zj hF (fun ZCc hF => ?_) (fun ZCc hF => ?_)
  ·refine AWP.seq ?_
   refine ns ?_
   refine AWP.seq ?_
   refine ns ?_
   refine AWP.thawB 1000 0 7001 45 rfl rfl ?_
   refine AWP.force ?_
   (conv => whnf)
   refine AWP.seq ?_
   refine ns ?_
   obtain rfl := Zh hF
   refine ns ?_
   refine Exists.intro [(1000, 1000), (7001, 7001), (1002, 1002), (7003, 7003)] ?_
   refine st ?_
   exact wx (WS.mk (tc Zb) (Ze rfl (Zd3 (ZV (by first | exact rfl | simp only [List.length_set])) (cc Zg)) (Ze rfl (cc Zg) (Ze rfl (cc Zg) (Ze rfl (cc Zg) Zc)))))
  ·refine nw ?_
   refine AWL.weak (rn []) ?_ (ZiW Zaq ZA Zbi _ hF)
   exact (WS.mk (tp (Zd (Zp (ZV (by first | exact rfl | simp only [List.length_set]))) Zb)) (Ze rfl (Zd3 (ZV (by first | exact rfl | simp only [List.length_set])) (cc Zg)) (Ze rfl (cc Zg) (Ze rfl (cc Zg) (Ze rfl (cc Zg) Zc)))))
theorem Zi1 : ∀ (Zaq : (List (ByteArray × Int))) (ZA : (List Zf)) (Zbi : (List Zo)), ∀ r, ZJ Zaq ZA Zbi = some r → ZJ.M Zaq ZA Zbi r := Ziv.1

def ZcL (s : Zr) (todo : (List Zo)) : Option (Int × Zr × (List Zo)) :=
 ZJ s.fat s.flist todo
def ZcL.M (s : Zr) (todo : (List Zo)) (r : Int × Zr × (List Zo)) : Prop :=
 Zk Tryz.prog 32 [.ptr 1000 0, .c none (.rs 7003 todo.length)] [(1000, [(none, .rs 7001 s.flist.length), (none, .rf 1002)]), (1002, [(none, .ob 109 (s.fat.map (Zcj c_S Zba)))]), (7001, [(none, .ob 90 (s.flist.map Zf.cells))]), (7003, [(none, .ob 76 (todo.map Zo.cells))])] (fun d b => d = .c none (.v (.int .i64 r.1)) ∧ b = [(1000, [(none, .rs 7001 r.2.1.flist.length), (none, .rf 1002)]), (1002, [(none, .ob 109 (r.2.1.fat.map (Zcj c_S Zba)))]), (7001, [(none, .ob 90 (r.2.1.flist.map Zf.cells))]), (7003, [(none, .ob 76 (r.2.2.map Zo.cells))])])
theorem Zky (s : Zr) (todo : (List Zo)) (r : Int × Zr × (List Zo)) (hF : ZcL s todo = some r) : ZcL.M s todo r := by
 unfold ZcL at hF
 unfold ZcL.M
 refine en Tryz.func32 ?_
 refine AWP.seq ?_
 refine ns ?_
 refine AWP.seq ?_
 refine AWP.block ?_
 refine AWP.loop ?_
 refine AWL.weak (rn []) ?_ (Zi1 s.fat s.flist todo _ hF)
 exact (WS.mk (tp (Zd (Zp (ZV (by first | exact rfl | simp only [List.length_set]))) Zb)) (Ze rfl (Zd3 (ZV (by first | exact rfl | simp only [List.length_set])) (cc Zg)) (Ze rfl (cc Zg) (Ze rfl (cc Zg) (Ze rfl (cc Zg) Zc)))))

def Zcn (ZdS : (List Zf)) (l : (List Zf)) (x_8 : Nat) (Zay : (List Zf)) : Option ((List Zf)) :=
 (match Zay with
 | x17 :: Zt5 =>
 Zbj x17.fType >>= fun r22 =>
 Zac ((ZdS.length + ([(Zf.mk x17.fName r22)]).length) * 88 ≤ 140737488355328) >>= fun _ =>
 Zcn (ZdS ++ ([(Zf.mk x17.fName r22)])) l (x_8 + 1) Zt5
 | [] =>
 some ZdS)
 partial_fixpoint
def Zcn.M (ZdS : (List Zf)) (l : (List Zf)) (x_8 : Nat) (Zay : (List Zf)) (r : (List Zf)) : Prop :=
 ∀ ZcP : List Zf, l = ZcP ++ Zay → x_8 = ZcP.length → l.length ≤ maxLen → AWL Tryz.prog 23 (Code.sub (Zs Tryz.f33) [1, 1, 0, 1, 0, 0]) (Code.cont Tryz.prog 23 (Zs Tryz.f33) [1, 1, 0, 1, 0] (Zce tab Tryz.f33.results (Zch (.c (some (0, 45)) (.sl (r.map Zf.cells))) [(1000, [(none, .ob 90 (l.map Zf.cells))])]))) ⟨[(3, .c (some (3, 45)) (.sl (ZdS.map Zf.cells))), (6, .c none (.rs 1000 l.length)), (7, .c none (.v (.int .i64 ((l.length : Nat) : Int)))), (8, .c none (.v (.int .i64 ((x_8 : Nat) : Int))))], [(1000, [(none, .ob 90 (l.map Zf.cells))])]⟩
theorem Znn (ZdS : (List Zf)) (l : (List Zf)) (x_8 : Nat) (Zay : (List Zf)) : ∀ r, Zcn ZdS l x_8 Zay = some r → Zcn.M ZdS l x_8 Zay r := by
 refine Zcn.partial_correctness l (fun ZdS x_8 Zay r => Zcn.M ZdS l x_8 Zay r) ?_ ZdS x_8 Zay
 intro unify_fresh_l1' Zik ZdS x_8 Zay r hF
 have Znk := fun (ZdS : (List Zf)) (_l : (List Zf)) (x_8 : Nat) (Zay : (List Zf)) => Zik ZdS x_8 Zay
 clear Zik
 unfold Zcn.M
 intro ZcP Zgx Zgk hlen1
 refine AWL.step ?_
 refine AWP.seq ?_
 refine ns ?_
 refine AWP.seq ?_
 refine nw ?_
 refine ZK Zgx Zgk (fun x17 Zt5 Zuf ZzI ZBm => ?_) (fun Zuf => ?_)
 ·subst Zuf
  refine nw ?_
  refine AWP.seq ?_
  refine AWP.block ?_
  refine AWP.seq ?_
  refine ns ?_
  refine And.intro (Zpq ZzI) ?_
  refine st ?_
  refine sr (Zag (f := Zf.cells) (Zf.cells_eq x17) ZzI) ?_
  refine st ?_
  obtain ⟨r22, Zt3, hF⟩ := bind_some hF
  obtain ⟨ZAH, hF⟩ := ZD hF
  refine nn ?_
  refine Or.inl (Or.inl (Exists.intro 8 (Exists.intro [[], [], [], [], [], [], [], []] (Exists.intro [([12, 13, 14, 15, 16, 17, 18, 19], [], []), ([12, 13, 14, 15, 16, 17, 18, 19], [], []), ([12, 14, 15, 16, 17, 18, 19], [], []), ([12, 13, 14, 15, 16, 17, 18, 19], [], []), ([12, 13, 14, 16, 17, 18, 19], [], []), ([12, 13, 14, 17, 18, 19], [], []), ([12, 18, 19], [], []), ([12, 19], [], [])] (Exists.intro [12, 13, 14, 15, 16, 17, 18, 19] (And.intro (by decide +kernel) ?_))))))
  refine dp ?_
  refine dp ?_
  refine dp ?_
  refine dp ?_
  refine dp ?_
  (refine st ?_; apply Exists.intro; apply Exists.intro; apply And.intro; (focus ((conv => whnf); refine Exists.intro [] ?_; (conv => whnf); refine And.intro rfl ?_; (conv => whnf); refine Zk.mono (Zk.weak (rn []) (Zkv x17.fType _ Zt3) rfl (WS.mk (Zd (Zq (lc (lc (lc (lc Zn))))) Zb) Zc)) ?_; rintro d b ⟨rfl, rfl⟩; exact And.intro rfl (And.intro rfl rfl))); apply And.intro; (focus exact rfl); (conv => whnf))
  refine dp ?_
  refine de (ZcZ (f := Zf.cells) (Zem (Zf.cells_eq (Zf.mk x17.fName r22)) (lc (lc (lc (lc (lc Zn)))))) (Zbb (f := Zf.cells))) ?_
  refine sa (fun l => Zc0 l (fun x => Zf.cells_len x)) ZAH ?_
  refine Exists.intro _ (And.intro (WE.refl _) ?_)
  rw [← List.map_append]
  refine st ?_
  refine ns ?_
  refine AWL.weak (rn [(20, 3)]) ?_ (Znk (ZdS ++ ([(Zf.mk x17.fName r22)])) l (x_8 + 1) Zt5 _ hF (ZcP ++ [x17]) (by rw [Zgx]; simp) (by rw [Zgk]; simp) hlen1)
  exact (WS.mk (Zd (Zc9 rfl (WE.refl _)) (Zd (Zp (ZV (by first | exact rfl | simp only [List.length_set]))) (tc (Zd (Zp (Zc3 (ZX hlen1 ZBm))) Zb)))) (Ze rfl (cc Zg) Zc))
 ·subst Zuf
  refine nw ?_
  refine AWP.seq ?_
  refine ns ?_
  obtain rfl := Zh hF
  refine ns ?_
  refine Exists.intro [(1000, 1000)] ?_
  refine st ?_
  exact Exists.intro (rn [(3, 0)]) (WS.mk (Zd (Zc9 rfl (WE.refl _)) Zb) (Ze rfl (cc Zg) Zc))

def Zcf (l : (List Zf)) : Option ((List Zf)) :=
 Zcn ([]) l 0 l
def Zcf.M (l : (List Zf)) (r : (List Zf)) : Prop :=
 Zk Tryz.prog 33 [.c none (.rs 1000 l.length)] [(1000, [(none, .ob 90 (l.map Zf.cells))])] (fun d b => d = .c (some (0, 45)) (.sl (r.map Zf.cells)) ∧ b = [(1000, [(none, .ob 90 (l.map Zf.cells))])])
theorem Zp8 (l : (List Zf)) (r : (List Zf)) (hF : Zcf l = some r) : Zcf.M l r := by
 unfold Zcf at hF
 unfold Zcf.M
 refine en Tryz.func33 ?_
 refine AWP.seq ?_
 refine ns ?_
 refine AWP.seq ?_
 refine ns ?_
 refine AWP.seq ?_
 refine AWP.seq ?_
 refine ns ?_
 intro hlen1
 (try rw [List.length_map] at hlen1)
 (try rw [List.length_map])
 refine st ?_
 refine AWP.block ?_
 refine AWP.loop ?_
 refine AWL.weak (rn []) ?_ (Znn ([]) l 0 l _ hF ([]) rfl rfl hlen1)
 exact (WS.mk (Zd Zmh (Zd (Zp (ZV (by first | exact rfl | simp only [List.length_set]))) (tc (tc Zb)))) (Ze rfl (cc Zg) Zc))

def ZcX (pairs : (List Zo)) (i_5 : Int) (ZaY : (List Zo)) : Option ((List Zf) × Int) :=
 if (decide (i_5 ≥ 0)) = true then
 (ixI pairs i_5) >>= fun x91 =>
 Za8 x91.e0 >>= fun r92 =>
 (if (!r92) = true then some true else (ixI pairs i_5) >>= fun x93 =>
 Za8 x93.e1 >>= fun r94 =>
 some (!r94)) >>= fun c95 =>
 if c95 = true then
 some (([] : List Zf), 1)
 else
 (ixI pairs i_5) >>= fun x98 =>
 Zac ((ZaY.length + ([x98]).length) * 144 ≤ 140737488355328) >>= fun _ =>
 ZcX pairs (IntKind.i64.wrap (i_5 - 1)) (ZaY ++ ([x98]))
 else
 ZcL (Zr.mk ([] : List Zf) ([] : List (ByteArray × Int))) ZaY >>= fun Zn9 =>
 Zcf Zn9.2.1.flist >>= fun ZsS =>
 some (ZsS, Zn9.1)
 partial_fixpoint
def ZcX.M (pairs : (List Zo)) (i_5 : Int) (ZaY : (List Zo)) (r : (List Zf) × Int) : Prop :=
 pairs.length ≤ maxLen → AWL Tryz.prog 50 (Code.sub (Zs Tryz.f15) [1, 1, 0, 1, 0, 0]) (Code.cont Tryz.prog 50 (Zs Tryz.f15) [1, 1, 0, 1, 0] (Zce tab Tryz.f15.results (Zch (.tup [.c (.sl (r.1.map Zf.cells)), .c (.v (.int .i64 r.2))]) []))) ⟨[(0, .c none (.sl (pairs.map Zo.cells))), (4, .c none (.rs 6004 ZaY.length)), (5, .c none (.v (.int .i64 i_5)))], [(6004, [(none, .ob 76 (ZaY.map Zo.cells))])]⟩
theorem ZoO (pairs : (List Zo)) (i_5 : Int) (ZaY : (List Zo)) : ∀ r, ZcX pairs i_5 ZaY = some r → ZcX.M pairs i_5 ZaY r := by
 refine ZcX.partial_correctness pairs (fun i_5 ZaY r => ZcX.M pairs i_5 ZaY r) ?_ i_5 ZaY
 intro unify_All_l1' Zjl i_5 ZaY r hF
 have Zoy := fun (_pairs : (List Zo)) (i_5 : Int) (ZaY : (List Zo)) => Zjl i_5 ZaY
 clear Zjl
 unfold ZcX.M
 intro hlen50
 refine AWL.step ?_
 refine AWP.seq ?_
 refine AWP.seq ?_
 refine ns ?_
 refine nw ?_
 refine Zj hF (fun Zys hF => ?_) (fun Zys hF => ?_)
 ·refine nw ?_
  refine AWP.seq ?_
  refine AWP.block ?_
  refine AWP.seq ?_
  refine AWP.seq ?_
  obtain ⟨x91, hx910, ZEJ, hF⟩ := Zeo hF
  obtain ⟨r92, Zw4, hF⟩ := bind_some hF
  obtain ⟨c95, ZqT, hF⟩ := bind_some hF
  refine AWP.cutN (fun T => ∃ r, WS r T ⟨[(0, .c none (.sl (pairs.map Zo.cells))), (4, .c none (.rs 6004 ZaY.length)), (5, .c none (.v (.int .i64 i_5))), (30, .c none (.v (.bool c95)))], [(6004, [(none, .ob 76 (ZaY.map Zo.cells))])]⟩) ?_ (fun T hw => ?_)
  ·refine nn ?_
   refine sr (ZdC (f := Zo.cells) (Zo.cells_eq x91) ZEJ) ?_
   refine st ?_
   refine e3 ?_
   refine st ?_
   refine cm (Zk.weak (rn []) (Zd8 x91.e0 _ Zw4) rfl (WS.mk (Zd (Zq (lc (lc (lc (lc Zn))))) Zb) Zc)) ?_
   refine st ?_
   refine Zl false (fun Zuh => ?_) (fun Zuh => ?_)
   ·have ZqT := ift Zuh ZqT
    (conv => whnf)
    obtain rfl := Zh ZqT
    refine st ?_
    exact wx (WS.mk (tc (Zd (Zp (ZV (by first | exact rfl | simp only [List.length_set]))) (tc (Zd (Zp (web Zuh)) Zb)))) (Ze rfl (cc Zg) Zc))
   ·have ZqT := ife Zuh ZqT
    obtain ⟨x93, hx930, ZD1, ZqT⟩ := Zeo ZqT
    obtain ⟨r94, ZEX, ZqT⟩ := bind_some ZqT
    (conv => whnf)
    refine sr (ZdC (f := Zo.cells) (Zo.cells_eq x93) ZD1) ?_
    refine st ?_
    refine e3 ?_
    refine st ?_
    refine cm (Zk.weak (rn []) (Zd8 x93.e1 _ ZEX) rfl (WS.mk (Zd (Zq (lc (lc (lc (lc Zn))))) Zb) Zc)) ?_
    refine st ?_
    obtain rfl := Zh ZqT
    refine st ?_
    exact wx (WS.mk (tc (Zd (Zp (ZV (by first | exact rfl | simp only [List.length_set]))) (tc (Zd (Zp (web Zuh)) Zb)))) (Ze rfl (cc Zg) Zc))
  obtain ⟨r0, hw⟩ := hw
  (conv => whnf)
  refine AWP.weak r0 hw ?_
  refine nw ?_
  refine Zj hF (fun ZFv hF => ?_) (fun ZFv hF => ?_)
  ·refine AWP.seq ?_
   refine ns ?_
   obtain rfl := Zh hF
   refine ns ?_
   refine Exists.intro [] ?_
   refine st ?_
   exact wx (WS.mk (Zd (Zcg (ZbV WE.nil (ZbV (WE.refl _) Zck))) Zb) Zc)
  ·refine nw ?_
   obtain ⟨x98, hx980, ZEW, hF⟩ := Zeo hF
   obtain ⟨ZDw, hF⟩ := ZD hF
   refine nn ?_
   refine sr (ZdC (f := Zo.cells) (Zo.cells_eq x98) ZEW) ?_
   refine st ?_
   refine Exists.intro _ (And.intro (ZcZ (f := Zo.cells) (Zem (Zo.cells_eq x98) (lc (lc (lc (lc (lc (lc (lc (lc Zn))))))))) (Zbb (f := Zo.cells))) ?_)
   refine sa (fun l => Zc0 l (fun x => Zo.cells_len x)) ZDw ?_
   refine Exists.intro (([x98]).map Zo.cells) (Exists.intro ((ZaY ++ ([x98])).map Zo.cells) (Exists.intro (ZaY ++ ([x98])).length (And.intro (WE.refl _) (And.intro (Zp3 (by first | exact rfl | simp only [List.length_set])) (And.intro (ZpW (by first | exact rfl | simp only [List.length_set]) (by first | exact List.length_map _ | exact rfl)) ?_)))))
   refine st ?_
   refine ns ?_
   refine AWL.weak (rn []) ?_ (Zoy pairs (IntKind.i64.wrap (i_5 - 1)) (ZaY ++ ([x98])) _ hF hlen50)
   exact (WS.mk (tc (Zd (Zp (ZV (by first | exact rfl | simp only [List.length_set]))) (tc Zb))) (Ze rfl (cc Zg) Zc))
 ·refine nw ?_
  refine AWP.seq ?_
  refine ns ?_
  refine AWP.thawB 40 0 6540 45 rfl rfl ?_
  refine AWP.force ?_
  (conv => whnf)
  refine AWP.seq ?_
  obtain ⟨Zn9, ZCr, hF⟩ := bind_some hF
  refine ns ?_
  refine Exists.intro [] (Exists.intro [(40, 1000), (6540, 7001), (38, 1002), (6004, 7003)] (Exists.intro [] ?_))
  refine st ?_
  refine cm (Zk.weak (rn []) (Zky (Zr.mk ([] : List Zf) ([] : List (ByteArray × Int))) ZaY _ ZCr) rfl (WS.mk (tp (Zd (Zp (ZV (by first | exact rfl | simp only [List.length_set]))) Zb)) (Ze rfl (Zd3 (ZV (by first | exact rfl | simp only [List.length_set])) (cc Zg)) (Ze rfl (cc Zg) (Ze rfl (cc Zg) (Ze rfl (cc Zg) Zc)))))) ?_
  refine st ?_
  refine AWP.seq ?_
  obtain ⟨ZsS, ZDf, hF⟩ := bind_some hF
  refine ns ?_
  refine Exists.intro [] (Exists.intro [(6540, 1000)] (Exists.intro [] ?_))
  refine st ?_
  refine cm (Zk.weak (rn []) (Zp8 Zn9.2.1.flist _ ZDf) rfl (WS.mk (Zd (Zp (ZV (by first | exact rfl | simp only [List.length_set]))) Zb) (Ze rfl (cc Zg) Zc))) ?_
  refine st ?_
  obtain rfl := Zh hF
  refine ns ?_
  refine Exists.intro [] ?_
  refine st ?_
  exact wx (WS.mk (Zd (Zcg (ZbV (WE.refl _) (ZbV (WE.refl _) Zck))) Zb) Zc)

def Zf1 (pairs : (List Zo)) : Option ((List Zf) × Int) :=
 ZcX pairs (IntKind.i64.wrap (((pairs.length : Nat) : Int) - 1)) ([] : List Zo)
def Zf1.M (pairs : (List Zo)) (r : (List Zf) × Int) : Prop :=
 Zk Tryz.prog 15 [.c none (.sl (pairs.map Zo.cells))] [] (fun d b => d = .tup [.c (.sl (r.1.map Zf.cells)), .c (.v (.int .i64 r.2))] ∧ b = [])
theorem Zsn (pairs : (List Zo)) (r : (List Zf) × Int) (hF : Zf1 pairs = some r) : Zf1.M pairs r := by
 unfold Zf1 at hF
 unfold Zf1.M
 refine en Tryz.func15 ?_
 refine AWP.seq ?_
 refine ns ?_
 refine AWP.seq ?_
 refine ns ?_
 refine AWP.thaw 4 6004 38 rfl ?_
 refine AWP.force ?_
 (conv => whnf)
 refine AWP.seq ?_
 refine AWP.seq ?_
 refine ns ?_
 intro hlen50
 (try rw [List.length_map] at hlen50)
 (try rw [List.length_map])
 refine st ?_
 refine AWP.block ?_
 refine AWP.loop ?_
 refine AWL.weak (rn []) ?_ (ZoO pairs (IntKind.i64.wrap (((pairs.length : Nat) : Int) - 1)) ([] : List Zo) _ hF hlen50)
 exact (WS.mk (tc (Zd (Zp (ZV (by first | exact rfl | simp only [List.length_set]))) (tc Zb))) (Ze rfl (cc Zg) Zc))

def Zb6 (a : Za) (b : Za) : Option ((List Zf) × Int) :=
 Zf1 ([(Zo.mk a b)]) >>= fun r1 =>
 some (r1.1, r1.2)
def Zb6.M (a : Za) (b : Za) (r : (List Zf) × Int) : Prop :=
 Zk Tryz.prog 12 [.agg [.v (.int .i64 a.fOp), .v (.string a.fName), .sl (a.fBound.fArgs.map Zi.cells), .sl (a.fKids.map Za.cells)], .agg [.v (.int .i64 b.fOp), .v (.string b.fName), .sl (b.fBound.fArgs.map Zi.cells), .sl (b.fKids.map Za.cells)]] [] (fun d b => d = .tup [.c (.sl (r.1.map Zf.cells)), .c (.v (.int .i64 r.2))] ∧ b = [])
theorem Zh5 (a : Za) (b : Za) (r : (List Zf) × Int) (hF : Zb6 a b = some r) : Zb6.M a b r := by
 unfold Zb6 at hF
 unfold Zb6.M
 refine en Tryz.func12 ?_
 refine AWP.seq ?_
 refine ns ?_
 refine AWP.seq ?_
 obtain ⟨r1, hr1, hF⟩ := bind_some hF
 refine ns ?_
 refine Exists.intro _ (And.intro (ZcZ (f := Zo.cells) (Zem (Zo.cells_eq (Zo.mk a b)) (lc (lc (lc (lc (lc (lc (lc (lc Zn))))))))) (Zbb (f := Zo.cells))) ?_)
 refine st ?_
 refine Exists.intro [9] (Exists.intro [] (Exists.intro [] ?_))
 refine st ?_
 refine cm (Zk.weak (rn []) (Zsn ([(Zo.mk a b)]) _ hr1) rfl (WS.mk (tc Zb) Zc)) ?_
 refine st ?_
 obtain rfl := Zh hF
 refine ns ?_
 refine Exists.intro [] ?_
 refine st ?_
 exact wx (WS.mk (Zd (Zcg (ZbV (WE.refl _) (ZbV (WE.refl _) Zck))) Zb) Zc)

mutual
def Z9 (a : Zi) (b : Zi) : Option (Bool) :=
 if (((a.fArgs.length : Nat) : Int) != ((b.fArgs.length : Nat) : Int)) = true then
 some false
 else
 ZaW 0 a b a.fArgs
 partial_fixpoint
def ZaW (i_5 : Nat) (a : Zi) (b : Zi) (Zes : (List Zi)) : Option (Bool) :=
 (match Zes with
 | x32 :: ZAN =>
 (b.fArgs[i_5]?) >>= fun x37 =>
 Z9 x32 x37 >>= fun r38 =>
 if (!r38) = true then
 some false
 else
 ZaW (i_5 + 1) a b ZAN
 | [] =>
 some true)
 partial_fixpoint
end
def Z9.M (a : Zi) (b : Zi) (r : Bool) : Prop :=
 Zk Tryz.prog 65 [.agg [.sl (a.fArgs.map Zi.cells)], .agg [.sl (b.fArgs.map Zi.cells)]] [] (fun d b => d = .c none (.v (.bool r)) ∧ b = [])
def ZaW.M (i_5 : Nat) (a : Zi) (b : Zi) (Zes : (List Zi)) (r : Bool) : Prop :=
 ∀ ZhO : List Zi, a.fArgs = ZhO ++ Zes → i_5 = ZhO.length → a.fArgs.length ≤ maxLen → b.fArgs.length ≤ maxLen → AWL Tryz.prog 32 (Code.sub (Zs Tryz.f65) [1, 1, 0, 1, 0, 0]) (Code.cont Tryz.prog 32 (Zs Tryz.f65) [1, 1, 0, 1, 0] (Zce tab Tryz.f65.results (Zch (.c none (.v (.bool r))) []))) ⟨[(2, .ptr 2 0), (3, .ptr 3 0), (5, .c none (.v (.int .i64 ((i_5 : Nat) : Int))))], [(2, [(none, .sl (a.fArgs.map Zi.cells))]), (3, [(none, .sl (b.fArgs.map Zi.cells))])]⟩
theorem Zje : (∀ (a : Zi) (b : Zi), ∀ r, Z9 a b = some r → Z9.M a b r) ∧ (∀ (i_5 : Nat) (a : Zi) (b : Zi) (Zes : (List Zi)), ∀ r, ZaW i_5 a b Zes = some r → ZaW.M i_5 a b Zes r) := by
 refine Z9.mutual_partial_correctness Z9.M ZaW.M ?_ ?_
 ·intro lazycref04_SameKind_l1' Zd7 a b r hF
  unfold Z9.M
  refine en Tryz.func65 ?_
  refine AWP.seq ?_
  refine ns ?_
  refine AWP.seq ?_
  refine AWP.seq ?_
  refine ns ?_
  intro hlen4
  (try rw [List.length_map] at hlen4)
  (try rw [List.length_map])
  refine st ?_
  intro hlen5
  (try rw [List.length_map] at hlen5)
  (try rw [List.length_map])
  refine st ?_
  refine nw ?_
  refine Zj hF (fun hc6 hF => ?_) (fun hc6 hF => ?_)
  ·refine AWP.seq ?_
   refine ns ?_
   obtain rfl := Zh hF
   refine ns ?_
   refine Exists.intro [] ?_
   refine st ?_
   exact wx (WS.mk (tc Zb) Zc)
  ·refine nw ?_
   refine AWP.seq ?_
   refine AWP.seq ?_
   refine ns ?_
   refine AWP.block ?_
   refine AWP.loop ?_
   refine AWL.weak (rn []) ?_ (Zd7 0 a b a.fArgs _ hF ([]) rfl rfl hlen4 hlen5)
   exact (WS.mk (tp (tp (tc Zb))) (Ze rfl (cc Zg) (Ze rfl (cc Zg) Zc)))
 ·intro lazycref04_SameKind' lazycref04_SameKind_l1' ZjM Zd7 i_5 a b Zes r hF
  unfold ZaW.M
  intro ZhO Zpv ZpJ hlen4 hlen5
  refine AWL.step ?_
  refine AWP.seq ?_
  refine AWP.seq ?_
  refine ns ?_
  intro hlen31
  (try rw [List.length_map] at hlen31)
  (try rw [List.length_map])
  refine st ?_
  refine nw ?_
  refine ZK Zpv ZpJ (fun x32 ZAN ZAl ZEf ZE1 => ?_) (fun ZAl => ?_)
  ·subst ZAl
   refine nw ?_
   refine AWP.seq ?_
   refine AWP.block ?_
   refine AWP.seq ?_
   obtain ⟨x37, ZE3, hF⟩ := bind_some hF
   obtain ⟨r38, Zxn, hF⟩ := bind_some hF
   refine nn ?_
   refine Or.inl (Or.inl (Exists.intro 10 (Exists.intro [[], [], [], [], [], [], [], [], [], []] (Exists.intro [([20, 21, 22, 23, 24, 25, 26, 27, 28, 29], [], []), ([21, 22, 23, 24, 25, 26, 27, 28, 29], [], []), ([20, 21, 22, 23, 24, 25, 26, 27, 28, 29], [], []), ([23, 24, 25, 26, 27, 28, 29], [], []), ([24, 25, 26, 27, 28, 29], [], []), ([20, 21, 22, 23, 24, 25, 26, 27, 28, 29], [], []), ([20, 21, 22, 23, 24, 26, 27, 28, 29], [], []), ([20, 21, 22, 23, 24, 25, 26, 27, 28, 29], [], []), ([20, 21, 22, 23, 24, 28, 29], [], []), ([20, 21, 22, 23, 24, 29], [], [])] (Exists.intro [20, 21, 22, 23, 24, 25, 26, 27, 28, 29] (And.intro (by decide +kernel) ?_))))))
   refine dp ?_
   refine dp ?_
   refine dp ?_
   refine dr (Zag (Zi.cells_eq x32) ZEf) ?_
   refine dp ?_
   refine dp ?_
   refine dp ?_
   refine dp ?_
   refine dr (Zag (Zi.cells_eq x37) ZE3) ?_
   refine dp ?_
   refine st ?_
   refine e3 ?_
   refine st ?_
   refine cm (Zk.weak (rn []) (ZjM x32 x37 _ Zxn) rfl (WS.mk (Zd (Zq (lc Zn)) (Zd (Zq (lc Zn)) Zb)) Zc)) ?_
   refine st ?_
   refine nw ?_
   refine Zj hF (fun ZhP hF => ?_) (fun ZhP hF => ?_)
   ·refine AWP.seq ?_
    refine ns ?_
    obtain rfl := Zh hF
    refine ns ?_
    refine Exists.intro [] ?_
    refine st ?_
    exact wx (WS.mk (tc Zb) Zc)
   ·refine nw ?_
    refine ns ?_
    refine AWL.weak (rn []) ?_ (Zd7 (i_5 + 1) a b ZAN _ hF (ZhO ++ [x32]) (by rw [Zpv]; simp) (by rw [ZpJ]; simp) hlen31 hlen5)
    exact (WS.mk (tp (tp (Zd (Zp (Zc3 (ZX hlen31 ZE1))) Zb))) (Ze rfl (cc Zg) (Ze rfl (cc Zg) Zc)))
  ·subst ZAl
   refine nw ?_
   refine AWP.seq ?_
   refine ns ?_
   obtain rfl := Zh hF
   refine ns ?_
   refine Exists.intro [] ?_
   refine st ?_
   exact wx (WS.mk (tc Zb) Zc)
theorem Zkq : ∀ (a : Zi) (b : Zi), ∀ r, Z9 a b = some r → Z9.M a b r := Zje.1

def ZbY (l : (List ByteArray)) (s : ByteArray) (i_5 : Int) : Option (Int) :=
 if (decide (i_5 ≥ 0)) = true then
 (ixI l i_5) >>= fun x12 =>
 if (x12.toList == s.toList) = true then
 some i_5
 else
 ZbY l s (IntKind.i64.wrap (i_5 - 1))
 else
 some (-1)
 partial_fixpoint
def ZbY.M (l : (List ByteArray)) (s : ByteArray) (i_5 : Int) (r : Int) : Prop :=
 l.length ≤ maxLen → AWL Tryz.prog 20 (Code.sub (Zs Tryz.f66) [1, 0, 1, 0, 0]) (Code.cont Tryz.prog 20 (Zs Tryz.f66) [1, 0, 1, 0] (Zce tab Tryz.f66.results (Zch (.c none (.v (.int .i64 r))) []))) ⟨[(0, .c none (.sl (l.map c_S))), (1, .c none (.v (.string s))), (5, .c none (.v (.int .i64 i_5)))], []⟩
theorem Zkz (l : (List ByteArray)) (s : ByteArray) (i_5 : Int) : ∀ r, ZbY l s i_5 = some r → ZbY.M l s i_5 r := by
 refine ZbY.partial_correctness l s (fun i_5 r => ZbY.M l s i_5 r) ?_ i_5
 intro lazycref04_last_l1' Zgz i_5 r hF
 have ZkJ := fun (_l : (List ByteArray)) (_s : ByteArray) (i_5 : Int) => Zgz i_5
 clear Zgz
 unfold ZbY.M
 intro hlen1
 refine AWL.step ?_
 refine AWP.seq ?_
 refine AWP.seq ?_
 refine ns ?_
 refine nw ?_
 refine Zj hF (fun ZbR hF => ?_) (fun ZbR hF => ?_)
 ·refine nw ?_
  refine AWP.seq ?_
  refine AWP.block ?_
  refine AWP.seq ?_
  obtain ⟨x12, hx120, ZEu, hF⟩ := Zeo hF
  refine nn ?_
  refine sr (ZdC (f := c_S) rfl ZEu) ?_
  refine st ?_
  refine nw ?_
  refine Zj hF (fun Zbp hF => ?_) (fun Zbp hF => ?_)
  ·refine AWP.seq ?_
   refine ns ?_
   obtain rfl := Zh hF
   refine ns ?_
   refine Exists.intro [] ?_
   refine st ?_
   exact wx (WS.mk (tc Zb) Zc)
  ·refine nw ?_
   refine ns ?_
   refine AWL.weak (rn []) ?_ (ZkJ l s (IntKind.i64.wrap (i_5 - 1)) _ hF hlen1)
   exact (WS.mk (tc (tc (tc Zb))) Zc)
 ·refine nw ?_
  refine AWP.seq ?_
  refine ns ?_
  obtain rfl := Zh hF
  refine ns ?_
  refine Exists.intro [] ?_
  refine st ?_
  exact wx (WS.mk (tc Zb) Zc)

def Zb1 (l : (List ByteArray)) (s : ByteArray) : Option (Int) :=
 ZbY l s (IntKind.i64.wrap (((l.length : Nat) : Int) - 1))
def Zb1.M (l : (List ByteArray)) (s : ByteArray) (r : Int) : Prop :=
 Zk Tryz.prog 66 [.c none (.sl (l.map c_S)), .c none (.v (.string s))] [] (fun d b => d = .c none (.v (.int .i64 r)) ∧ b = [])
theorem Zie (l : (List ByteArray)) (s : ByteArray) (r : Int) (hF : Zb1 l s = some r) : Zb1.M l s r := by
 unfold Zb1 at hF
 unfold Zb1.M
 refine en Tryz.func66 ?_
 refine AWP.seq ?_
 refine ns ?_
 refine AWP.seq ?_
 refine AWP.seq ?_
 refine ns ?_
 intro hlen1
 (try rw [List.length_map] at hlen1)
 (try rw [List.length_map])
 refine st ?_
 refine AWP.block ?_
 refine AWP.loop ?_
 refine AWL.weak (rn []) ?_ (Zkz l s (IntKind.i64.wrap (((l.length : Nat) : Int) - 1)) _ hF hlen1)
 exact (WS.mk (tc (tc (tc Zb))) Zc)

mutual
def ZR (a : Za) (b : Za) (x : (List ByteArray)) (y : (List ByteArray)) : Option (Bool) :=
 (if ((a.fOp != b.fOp) || (((a.fKids.length : Nat) : Int) != ((b.fKids.length : Nat) : Int))) = true then some true else Z9 a.fBound b.fBound >>= fun r8 =>
 some (!r8)) >>= fun c9 =>
 if c9 = true then
 some false
 else
 if (a.fOp == 1) = true then
 Zb1 x a.fName >>= fun r60 =>
 Zb1 y b.fName >>= fun r61 =>
 some ((r60 == r61) && ((decide (r60 ≥ 0)) || (a.fName.toList == b.fName.toList)))
 else
 if (a.fOp == 4) = true then
 Zac ((0 + x.length) * 16 ≤ 140737488355328) >>= fun _ =>
 Zac ((x.length + ([a.fName]).length) * 16 ≤ 140737488355328) >>= fun _ =>
 Zac ((0 + y.length) * 16 ≤ 140737488355328) >>= fun _ =>
 Zac ((y.length + ([b.fName]).length) * 16 ≤ 140737488355328) >>= fun _ =>
 ZaO (x ++ ([a.fName])) (y ++ ([b.fName])) a b
 else
 if (!(a.fName.toList == b.fName.toList)) = true then
 some false
 else
 ZaO x y a b
 partial_fixpoint
def ZaO (x_2 : (List ByteArray)) (y_3 : (List ByteArray)) (a : Za) (b : Za) : Option (Bool) :=
 Z8 x_2 y_3 0 a b a.fKids
 partial_fixpoint
def Z8 (x_2 : (List ByteArray)) (y_3 : (List ByteArray)) (ZqO : Nat) (a : Za) (b : Za) (Zj9 : (List Za)) : Option (Bool) :=
 (match Zj9 with
 | x49 :: ZAA =>
 (b.fKids[ZqO]?) >>= fun x54 =>
 ZR x49 x54 x_2 y_3 >>= fun r55 =>
 if (!r55) = true then
 some false
 else
 Z8 x_2 y_3 (ZqO + 1) a b ZAA
 | [] =>
 some true)
 partial_fixpoint
end
def ZR.M (a : Za) (b : Za) (x : (List ByteArray)) (y : (List ByteArray)) (r : Bool) : Prop :=
 Zk Tryz.prog 40 [.agg [.v (.int .i64 a.fOp), .v (.string a.fName), .sl (a.fBound.fArgs.map Zi.cells), .sl (a.fKids.map Za.cells)], .agg [.v (.int .i64 b.fOp), .v (.string b.fName), .sl (b.fBound.fArgs.map Zi.cells), .sl (b.fKids.map Za.cells)], .c none (.sl (x.map c_S)), .c none (.sl (y.map c_S))] [] (fun d b => d = .c none (.v (.bool r)) ∧ b = [])
def ZaO.M (x_2 : (List ByteArray)) (y_3 : (List ByteArray)) (a : Za) (b : Za) (r : Bool) : Prop :=
 AWP Tryz.prog 108 (Code.sub (Zs Tryz.f40) [1, 1, 1]) (Code.cont Tryz.prog 108 (Zs Tryz.f40) [1, 1, 1] (Zce tab Tryz.f40.results (Zch (.c none (.v (.bool r))) []))) ⟨[(2, .c none (.sl (x_2.map c_S))), (3, .c none (.sl (y_3.map c_S))), (4, .ptr 4 0), (5, .ptr 5 0)], [(4, [(none, .v (.int .i64 a.fOp)), (none, .v (.string a.fName)), (none, .sl (a.fBound.fArgs.map Zi.cells)), (none, .sl (a.fKids.map Za.cells))]), (5, [(none, .v (.int .i64 b.fOp)), (none, .v (.string b.fName)), (none, .sl (b.fBound.fArgs.map Zi.cells)), (none, .sl (b.fKids.map Za.cells))])]⟩
def Z8.M (x_2 : (List ByteArray)) (y_3 : (List ByteArray)) (ZqO : Nat) (a : Za) (b : Za) (Zj9 : (List Za)) (r : Bool) : Prop :=
 ∀ ZmU : List Za, a.fKids = ZmU ++ Zj9 → ZqO = ZmU.length → AWL Tryz.prog 108 (Code.sub (Zs Tryz.f40) [1, 1, 1, 0, 1, 0, 0]) (Code.cont Tryz.prog 108 (Zs Tryz.f40) [1, 1, 1, 0, 1, 0] (Zce tab Tryz.f40.results (Zch (.c none (.v (.bool r))) []))) ⟨[(2, .c none (.sl (x_2.map c_S))), (3, .c none (.sl (y_3.map c_S))), (4, .ptr 4 0), (5, .ptr 5 0), (13, .c none (.v (.int .i64 ((ZqO : Nat) : Int))))], [(4, [(none, .v (.int .i64 a.fOp)), (none, .v (.string a.fName)), (none, .sl (a.fBound.fArgs.map Zi.cells)), (none, .sl (a.fKids.map Za.cells))]), (5, [(none, .v (.int .i64 b.fOp)), (none, .v (.string b.fName)), (none, .sl (b.fBound.fArgs.map Zi.cells)), (none, .sl (b.fKids.map Za.cells))])]⟩
theorem Zlh : (∀ (a : Za) (b : Za) (x : (List ByteArray)) (y : (List ByteArray)), ∀ r, ZR a b x y = some r → ZR.M a b x y r) ∧ (∀ (x_2 : (List ByteArray)) (y_3 : (List ByteArray)) (a : Za) (b : Za), ∀ r, ZaO x_2 y_3 a b = some r → ZaO.M x_2 y_3 a b r) ∧ (∀ (x_2 : (List ByteArray)) (y_3 : (List ByteArray)) (ZqO : Nat) (a : Za) (b : Za) (Zj9 : (List Za)), ∀ r, Z8 x_2 y_3 ZqO a b Zj9 = some r → Z8.M x_2 y_3 ZqO a b Zj9 r) := by
 refine ZR.mutual_partial_correctness ZR.M ZaO.M Z8.M ?_ ?_ ?_
 ·intro lazycref04_Alike_k1' Zgv a b x y r hF
  unfold ZR.M
  refine en Tryz.func40 ?_
  refine AWP.seq ?_
  refine ns ?_
  refine AWP.seq ?_
  refine AWP.seq ?_
  obtain ⟨c9, hc9, hF⟩ := bind_some hF
  refine AWP.cutN (fun T => ∃ r, WS r T ⟨[(2, .c none (.sl (x.map c_S))), (3, .c none (.sl (y.map c_S))), (4, .ptr 4 0), (5, .ptr 5 0), (35, .c none (.v (.bool c9)))], [(4, [(none, .v (.int .i64 a.fOp)), (none, .v (.string a.fName)), (none, .sl (a.fBound.fArgs.map Zi.cells)), (none, .sl (a.fKids.map Za.cells))]), (5, [(none, .v (.int .i64 b.fOp)), (none, .v (.string b.fName)), (none, .sl (b.fBound.fArgs.map Zi.cells)), (none, .sl (b.fKids.map Za.cells))])]⟩) ?_ (fun T hw => ?_)
  ·refine ns ?_
   refine Zl false (fun Zd5 => ?_) (fun Zd5 => ?_)
   ·(conv => whnf)
    have hc9 := ift Zd5 hc9
    obtain rfl := Zh hc9
    refine st ?_
    exact wx (WS.mk (tc (tc (tp (tp (Zd (Zp (web Zd5)) Zb))))) (Ze rfl (cc (cc (cc (cc Zg)))) (Ze rfl (cc (cc (cc (cc Zg)))) Zc)))
   ·(conv => whnf)
    refine st ?_
    intro hlen6
    (try rw [List.length_map] at hlen6)
    (try rw [List.length_map])
    refine st ?_
    intro hlen7
    (try rw [List.length_map] at hlen7)
    (try rw [List.length_map])
    refine st ?_
    refine Zl false (fun ZbR => ?_) (fun ZbR => ?_)
    ·have hc9 := ift (And.intro Zd5 ZbR) hc9
     (conv => whnf)
     obtain rfl := Zh hc9
     refine st ?_
     exact wx (WS.mk (tc (tc (tp (tp (Zd (Zp (web (And.intro Zd5 ZbR))) Zb))))) (Ze rfl (cc (cc (cc (cc Zg)))) (Ze rfl (cc (cc (cc (cc Zg)))) Zc)))
    ·have hc9 := ife (And.intro Zd5 ZbR) hc9
     obtain ⟨r8, hr8, hc9⟩ := bind_some hc9
     (conv => whnf)
     refine st ?_
     refine e3 ?_
     refine st ?_
     refine cm (Zk.weak (rn []) (Zkq a.fBound b.fBound _ hr8) rfl (WS.mk (Zd (Zq (lc Zn)) (Zd (Zq (lc Zn)) Zb)) Zc)) ?_
     refine st ?_
     obtain rfl := Zh hc9
     refine st ?_
     exact wx (WS.mk (tc (tc (tp (tp (Zd (Zp (web (And.intro Zd5 ZbR))) Zb))))) (Ze rfl (cc (cc (cc (cc Zg)))) (Ze rfl (cc (cc (cc (cc Zg)))) Zc)))
  obtain ⟨r0, hw⟩ := hw
  (conv => whnf)
  refine AWP.weak r0 hw ?_
  refine nw ?_
  refine Zj hF (fun ZdO hF => ?_) (fun ZdO hF => ?_)
  ·refine AWP.seq ?_
   refine ns ?_
   obtain rfl := Zh hF
   refine ns ?_
   refine Exists.intro [] ?_
   refine st ?_
   exact wx (WS.mk (tc Zb) Zc)
  ·refine nw ?_
   refine AWP.seq ?_
   refine AWP.seq ?_
   refine ns ?_
   refine AWP.block ?_
   refine AWP.seq ?_
   refine ns ?_
   refine nw ?_
   refine Zj hF (fun Zij hF => ?_) (fun Zij hF => ?_)
   ·refine AWP.seq ?_
    obtain ⟨r60, ZAv, hF⟩ := bind_some hF
    obtain ⟨r61, ZD8, hF⟩ := bind_some hF
    refine nn ?_
    refine Or.inl (Or.inr (Exists.intro [0, 4, 5, 6] (Exists.intro [[45, 49, 50, 51], [45, 49, 50, 51], [45, 49, 50, 51], [45, 49, 51]] (Exists.intro [5] (Exists.intro [2, 3, 5, 45, 49, 50, 51] (Exists.intro [45, 49, 50, 51] (Exists.intro [1, 2, 3, 7, 8, 9] (And.intro (by decide +kernel) ?_))))))))
    refine dp ?_
    refine dp ?_
    refine dp ?_
    refine dp ?_
    refine st ?_
    refine e3 ?_
    refine st ?_
    refine cm (Zk.weak (rn []) (Zie x a.fName _ ZAv) rfl (WS.mk (tc (tc Zb)) Zc)) ?_
    refine st ?_
    refine e3 ?_
    refine st ?_
    refine cm (Zk.weak (rn []) (Zie y b.fName _ ZD8) rfl (WS.mk (tc (tc Zb)) Zc)) ?_
    refine st ?_
    refine AWP.seq ?_
    refine AWP.cutN (fun T => ∃ r, WS r T ⟨[(8, .c none (.v (.bool ((r60 == r61) && ((decide (r60 ≥ 0)) || (a.fName.toList == b.fName.toList))))))], []⟩) ?_ (fun T hw => ?_)
    ·refine ns ?_
     refine Zl true (fun ZsK => ?_) (fun ZsK => ?_)
     ·(conv => whnf)
      refine st ?_
      refine Zl false (fun Zz2 => ?_) (fun Zz2 => ?_)
      ·(conv => whnf)
       refine st ?_
       exact wx (WS.mk (Zd (Zp (web (And.intro ZsK Zz2))) Zb) Zc)
      ·(conv => whnf)
       refine st ?_
       exact wx (WS.mk (Zd (Zp (web (And.intro ZsK Zz2))) Zb) Zc)
     ·(conv => whnf)
      refine st ?_
      exact wx (WS.mk (Zd (Zp (web ZsK)) Zb) Zc)
    obtain ⟨r0, hw⟩ := hw
    (conv => whnf)
    refine AWP.weak r0 hw ?_
    obtain rfl := Zh hF
    refine ns ?_
    refine Exists.intro [] ?_
    refine st ?_
    exact wx (WS.mk (tc Zb) Zc)
   ·refine AWP.seq ?_
    refine ns ?_
    refine nw ?_
    refine Zj hF (fun Zxw hF => ?_) (fun Zxw hF => ?_)
    ·refine AWP.seq ?_
     refine ns ?_
     refine AWP.seq ?_
     obtain ⟨ZEn, hF⟩ := ZD hF
     refine nn ?_
     refine sa (fun l => Zc0 l (fun x => ZhT x)) ZEn ?_
     refine Exists.intro _ (And.intro (WE.refl _) ?_)
     (try rw [List.nil_append])
     refine st ?_
     refine AWP.seq ?_
     obtain ⟨ZD7, hF⟩ := ZD hF
     refine ns ?_
     refine Exists.intro _ (And.intro (ZcZ (f := c_S) (lc Zn) (Zbb (f := c_S))) ?_)
     refine sa (fun l => Zc0 l (fun x => ZhT x)) ZD7 ?_
     refine Exists.intro _ (And.intro (WE.refl _) ?_)
     rw [← List.map_append]
     refine st ?_
     refine AWP.seq ?_
     obtain ⟨ZDF, hF⟩ := ZD hF
     refine nn ?_
     refine sa (fun l => Zc0 l (fun x => ZhT x)) ZDF ?_
     refine Exists.intro _ (And.intro (WE.refl _) ?_)
     (try rw [List.nil_append])
     refine st ?_
     refine AWP.seq ?_
     obtain ⟨ZFs, hF⟩ := ZD hF
     refine ns ?_
     refine Exists.intro _ (And.intro (ZcZ (f := c_S) (lc Zn) (Zbb (f := c_S))) ?_)
     refine sa (fun l => Zc0 l (fun x => ZhT x)) ZFs ?_
     refine Exists.intro _ (And.intro (WE.refl _) ?_)
     rw [← List.map_append]
     refine st ?_
     refine AWP.seq ?_
     refine ns ?_
     refine ns ?_
     refine AWP.weak (rn []) ?_ (Zgv (x ++ ([a.fName])) (y ++ ([b.fName])) a b _ hF)
     exact (WS.mk (tc (tc (tp (tp Zb)))) (Ze rfl (cc (cc (cc (cc Zg)))) (Ze rfl (cc (cc (cc (cc Zg)))) Zc)))
    ·refine AWP.seq ?_
     refine ns ?_
     refine nw ?_
     refine Zj hF (fun ZE8 hF => ?_) (fun ZE8 hF => ?_)
     ·refine AWP.seq ?_
      refine ns ?_
      obtain rfl := Zh hF
      refine ns ?_
      refine Exists.intro [] ?_
      refine st ?_
      exact wx (WS.mk (tc Zb) Zc)
     ·refine nw ?_
      refine AWP.weak (rn []) ?_ (Zgv x y a b _ hF)
      exact (WS.mk (tc (tc (tp (tp Zb)))) (Ze rfl (cc (cc (cc (cc Zg)))) (Ze rfl (cc (cc (cc (cc Zg)))) Zc)))
 ·intro lazycref04_Alike_l2' ZeB x_2 y_3 a b r hF
  unfold ZaO.M
  refine AWP.seq ?_
  refine AWP.seq ?_
  refine ns ?_
  refine AWP.block ?_
  refine AWP.loop ?_
  refine AWL.weak (rn []) ?_ (ZeB x_2 y_3 0 a b a.fKids _ hF ([]) rfl rfl)
  exact (WS.mk (tc (tc (tp (tp (tc Zb))))) (Ze rfl (cc (cc (cc (cc Zg)))) (Ze rfl (cc (cc (cc (cc Zg)))) Zc)))
 ·intro lazycref04_Alike' lazycref04_Alike_l2' Zl1 ZeB x_2 y_3 ZqO a b Zj9 r hF
  unfold Z8.M
  intro ZmU Zv5 Zvq
  refine AWL.step ?_
  refine AWP.seq ?_
  refine AWP.seq ?_
  refine ns ?_
  intro hlen48
  (try rw [List.length_map] at hlen48)
  (try rw [List.length_map])
  refine st ?_
  refine nw ?_
  refine ZK Zv5 Zvq (fun x49 ZAA ZBO ZFc ZFn => ?_) (fun ZBO => ?_)
  ·subst ZBO
   refine nw ?_
   refine AWP.seq ?_
   refine AWP.block ?_
   refine AWP.seq ?_
   obtain ⟨x54, ZDD, hF⟩ := bind_some hF
   obtain ⟨r55, ZEh, hF⟩ := bind_some hF
   refine nn ?_
   refine Or.inl (Or.inl (Exists.intro 12 (Exists.intro [[], [], [], [], [], [], [], [], [], [], [], []] (Exists.intro [([94, 95, 96, 97, 98, 99, 100, 101, 102, 103, 104, 105], [], []), ([95, 96, 97, 98, 99, 100, 101, 102, 103, 104, 105], [], []), ([94, 95, 96, 97, 98, 99, 100, 101, 102, 103, 104, 105], [], []), ([97, 98, 99, 100, 101, 102, 103, 104, 105], [], []), ([98, 99, 100, 101, 102, 103, 104, 105], [], []), ([94, 95, 96, 97, 98, 99, 100, 101, 102, 103, 104, 105], [], []), ([94, 95, 96, 97, 98, 100, 101, 102, 103, 104, 105], [], []), ([94, 95, 96, 97, 98, 99, 100, 101, 102, 103, 104, 105], [], []), ([94, 95, 96, 97, 98, 102, 103, 104, 105], [], []), ([94, 95, 96, 97, 98, 103, 104, 105], [], []), ([94, 95, 96, 97, 98, 99, 100, 101, 102, 103, 104, 105], [], []), ([94, 95, 96, 97, 98, 99, 100, 101, 102, 103, 104, 105], [], [])] (Exists.intro [94, 95, 96, 97, 98, 99, 100, 101, 102, 103, 104, 105] (And.intro (by decide +kernel) ?_))))))
   refine dp ?_
   refine dp ?_
   refine dp ?_
   refine dr (Zag (Za.cells_eq x49) ZFc) ?_
   refine dp ?_
   refine dp ?_
   refine dp ?_
   refine dp ?_
   refine dr (Zag (Za.cells_eq x54) ZDD) ?_
   refine dp ?_
   refine dp ?_
   refine dp ?_
   refine st ?_
   refine e3 ?_
   refine st ?_
   refine cm (Zk.weak (rn []) (Zl1 x49 x54 x_2 y_3 _ ZEh) rfl (WS.mk (Zd (Zq (lc (lc (lc (lc Zn))))) (Zd (Zq (lc (lc (lc (lc Zn))))) (tc (tc Zb)))) Zc)) ?_
   refine st ?_
   refine nw ?_
   refine Zj hF (fun Zjv hF => ?_) (fun Zjv hF => ?_)
   ·refine AWP.seq ?_
    refine ns ?_
    obtain rfl := Zh hF
    refine ns ?_
    refine Exists.intro [] ?_
    refine st ?_
    exact wx (WS.mk (tc Zb) Zc)
   ·refine nw ?_
    refine ns ?_
    refine AWL.weak (rn []) ?_ (ZeB x_2 y_3 (ZqO + 1) a b ZAA _ hF (ZmU ++ [x49]) (by rw [Zv5]; simp) (by rw [Zvq]; simp))
    exact (WS.mk (tc (tc (tp (tp (Zd (Zp (Zc3 (ZX hlen48 ZFn))) Zb))))) (Ze rfl (cc (cc (cc (cc Zg)))) (Ze rfl (cc (cc (cc (cc Zg)))) Zc)))
  ·subst ZBO
   refine nw ?_
   refine AWP.seq ?_
   refine ns ?_
   obtain rfl := Zh hF
   refine ns ?_
   refine Exists.intro [] ?_
   refine st ?_
   exact wx (WS.mk (tc Zb) Zc)
theorem ZlV : ∀ (a : Za) (b : Za) (x : (List ByteArray)) (y : (List ByteArray)), ∀ r, ZR a b x y = some r → ZR.M a b x y r := Zlh.1

def Zcu (a : Za) (b : Za) : Option (Bool) :=
 Zbg a >>= fun r1 =>
 (if (r1 == 0) = true then Zbg b >>= fun r2 =>
 some (r2 == 0) else some false) >>= fun c3 =>
 (if c3 = true then ZR a b ([] : List ByteArray) ([] : List ByteArray) >>= fun r4 =>
 some r4 else some false) >>= fun c5 =>
 some c5
def Zcu.M (a : Za) (b : Za) (r : Bool) : Prop :=
 Zk Tryz.prog 18 [.agg [.v (.int .i64 a.fOp), .v (.string a.fName), .sl (a.fBound.fArgs.map Zi.cells), .sl (a.fKids.map Za.cells)], .agg [.v (.int .i64 b.fOp), .v (.string b.fName), .sl (b.fBound.fArgs.map Zi.cells), .sl (b.fKids.map Za.cells)]] [] (fun d b => d = .c none (.v (.bool r)) ∧ b = [])
theorem ZlO (a : Za) (b : Za) (r : Bool) (hF : Zcu a b = some r) : Zcu.M a b r := by
 unfold Zcu at hF
 unfold Zcu.M
 refine en Tryz.func18 ?_
 refine AWP.seq ?_
 refine ns ?_
 refine AWP.seq ?_
 obtain ⟨r1, hr1, hF⟩ := bind_some hF
 obtain ⟨c3, hc3, hF⟩ := bind_some hF
 obtain ⟨c5, hc5, hF⟩ := bind_some hF
 refine AWP.cutN (fun T => ∃ r, WS r T ⟨[(4, .c none (.v (.bool c5)))], []⟩) ?_ (fun T hw => ?_)
 ·refine ns ?_
  refine e3 ?_
  refine st ?_
  refine cm (Zk.weak (rn []) (Zfx a _ hr1) rfl (WS.mk (Zd (Zq (lc (lc (lc (lc Zn))))) Zb) Zc)) ?_
  refine st ?_
  refine Zl true (fun hc6 => ?_) (fun hc6 => ?_)
  ·have hc3 := ift hc6 hc3
   obtain ⟨r2, hr2, hc3⟩ := bind_some hc3
   (conv => whnf)
   refine st ?_
   refine e3 ?_
   refine st ?_
   refine cm (Zk.weak (rn []) (Zfx b _ hr2) rfl (WS.mk (Zd (Zq (lc (lc (lc (lc Zn))))) Zb) Zc)) ?_
   refine st ?_
   obtain rfl := Zh hc3
   refine st ?_
   refine Zl true (fun hc7 => ?_) (fun hc7 => ?_)
   ·have hc5 := ift (And.intro hc6 hc7) hc5
    obtain ⟨r4, hr4, hc5⟩ := bind_some hc5
    (conv => whnf)
    refine st ?_
    refine e3 ?_
    refine st ?_
    refine cm (Zk.weak (rn []) (ZlV a b ([] : List ByteArray) ([] : List ByteArray) _ hr4) rfl (WS.mk (Zd (Zq (lc (lc (lc (lc Zn))))) (Zd (Zq (lc (lc (lc (lc Zn))))) (Zd (Zp WE.nil) (Zd (Zp WE.nil) Zb)))) Zc)) ?_
    refine st ?_
    obtain rfl := Zh hc5
    refine st ?_
    exact wx (WS.mk (Zd (Zp (web (And.intro hc6 hc7))) Zb) Zc)
   ·have hc5 := ife (And.intro hc6 hc7) hc5
    (conv => whnf)
    obtain rfl := Zh hc5
    refine st ?_
    exact wx (WS.mk (Zd (Zp (web (And.intro hc6 hc7))) Zb) Zc)
  ·have hc3 := ife hc6 hc3
   (conv => whnf)
   obtain rfl := Zh hc3
   have hc5 := ife hc6 hc5
   obtain rfl := Zh hc5
   refine st ?_
   exact wx (WS.mk (Zd (Zp (web hc6)) Zb) Zc)
 obtain ⟨r0, hw⟩ := hw
 (conv => whnf)
 refine AWP.weak r0 hw ?_
 obtain rfl := Zh hF
 refine ns ?_
 refine Exists.intro [] ?_
 refine st ?_
 exact wx (WS.mk (tc Zb) Zc)

def ZcF (s : ByteArray) : Option (Za) :=
 some (Za.mk 2 s (Zi.mk ([] : List Zi)) ([] : List Za))
def ZcF.M (s : ByteArray) (r : Za) : Prop :=
 Zk Tryz.prog 30 [.c none (.v (.string s))] [] (fun d b => d = .agg [.v (.int .i64 r.fOp), .v (.string r.fName), .sl (r.fBound.fArgs.map Zi.cells), .sl (r.fKids.map Za.cells)] ∧ b = [])
theorem ZeX (s : ByteArray) (r : Za) (hF : ZcF s = some r) : ZcF.M s r := by
 unfold ZcF at hF
 unfold ZcF.M
 refine en Tryz.func30 ?_
 refine AWP.seq ?_
 refine ns ?_
 refine AWP.seq ?_
 refine ns ?_
 obtain rfl := Zh hF
 refine ns ?_
 refine Exists.intro [] ?_
 refine st ?_
 exact wx (WS.mk (Zd (Zq (lc (lc (ZbA WE.nil (ZbA WE.nil Zn))))) Zb) Zc)

def ZbT : Option (Bool) :=
 ZcF (ByteArray.mk #[73, 110, 116]) >>= fun r3 =>
 Zb6 (Za.mk 1 (ByteArray.mk #[97]) (Zi.mk ([] : List Zi)) ([] : List Za)) r3 >>= fun r4 =>
 ZcF (ByteArray.mk #[91, 93]) >>= fun r7 =>
 Zb6 (Za.mk 1 (ByteArray.mk #[97]) (Zi.mk ([] : List Zi)) ([] : List Za)) (Za.mk 3 (ByteArray.mk #[]) (Zi.mk ([] : List Zi)) ([r7, (Za.mk 1 (ByteArray.mk #[97]) (Zi.mk ([] : List Zi)) ([] : List Za))])) >>= fun r8 =>
 ZcF (ByteArray.mk #[73, 110, 116]) >>= fun r9 =>
 ZcF (ByteArray.mk #[66, 111, 111, 108]) >>= fun r10 =>
 Zb6 r9 r10 >>= fun r11 =>
 (if ((r4.2 == 0) && (((r4.1.length : Nat) : Int) == 1)) = true then (ixI r4.1 0) >>= fun x13 =>
 some (x13.fName.toList == (ByteArray.mk #[97]).toList) else some false) >>= fun c14 =>
 (if c14 = true then (ixI r4.1 0) >>= fun x15 =>
 some (x15.fType.fName.toList == (ByteArray.mk #[73, 110, 116]).toList) else some false) >>= fun c16 =>
 some ((c16 && (r8.2 == 23)) && (r11.2 == 22))
def ZbT.M (r : Bool) : Prop :=
 Zk Tryz.prog 11 [] [] (fun d b => d = .c none (.v (.bool r)) ∧ b = [])
theorem ZeQ (r : Bool) (hF : ZbT = some r) : ZbT.M r := by
 unfold ZbT at hF
 unfold ZbT.M
 refine en Tryz.func11 ?_
 refine AWP.seq ?_
 refine ns ?_
 refine AWP.seq ?_
 refine ns ?_
 refine AWP.seq ?_
 obtain ⟨r3, hr3, hF⟩ := bind_some hF
 obtain ⟨r4, hr4, hF⟩ := bind_some hF
 refine nn ?_
 refine Or.inl (Or.inl (Exists.intro 7 (Exists.intro [[], [], [], [], [], [], []] (Exists.intro [([10, 11, 12, 9, 13, 14, 2], [], []), ([10, 11, 12, 9, 13, 14, 2], [], []), ([12, 9, 13, 14, 2], [], []), ([9, 13, 14, 2], [], []), ([13, 14, 2], [], []), ([13, 14, 2], [], []), ([14, 2], [], [])] (Exists.intro [10, 11, 12, 9, 13, 14, 2] (And.intro (by decide +kernel) ?_))))))
 refine dp ?_
 (refine st ?_; apply Exists.intro; apply Exists.intro; apply And.intro; (focus ((conv => whnf); refine Exists.intro [] ?_; (conv => whnf); refine And.intro rfl ?_; (conv => whnf); refine Zk.mono (Zk.weak (rn []) (ZeX (ByteArray.mk #[73, 110, 116]) _ hr3) rfl (WS.mk (tc Zb) Zc)) ?_; rintro d b ⟨rfl, rfl⟩; exact And.intro rfl (And.intro rfl rfl))); apply And.intro; (focus exact rfl); (conv => whnf))
 (refine st ?_; apply Exists.intro; apply Exists.intro; apply And.intro; (focus ((conv => whnf); refine Exists.intro [] ?_; (conv => whnf); refine And.intro rfl ?_; (conv => whnf); refine Zk.mono (Zk.weak (rn []) (Zh5 (Za.mk 1 (ByteArray.mk #[97]) (Zi.mk ([] : List Zi)) ([] : List Za)) r3 _ hr4) rfl (WS.mk (Zd (Zq (lc (lc (ZbA WE.nil (ZbA WE.nil Zn))))) (Zd (Zq (lc (lc (lc (lc Zn))))) Zb)) Zc)) ?_; rintro d b ⟨rfl, rfl⟩; exact And.intro rfl (And.intro rfl rfl))); apply And.intro; (focus exact rfl); (conv => whnf))
 refine dp ?_
 refine dp ?_
 refine dp ?_
 refine dp ?_
 refine st ?_
 refine AWP.seq ?_
 obtain ⟨r7, hr7, hF⟩ := bind_some hF
 obtain ⟨r8, hr8, hF⟩ := bind_some hF
 refine nn ?_
 refine Or.inl (Or.inl (Exists.intro 10 (Exists.intro [[], [], [], [], [], [], [], [], [], []] (Exists.intro [([16, 17, 18, 19, 20, 21, 15, 22, 23, 4], [], []), ([16, 17, 18, 19, 20, 21, 15, 22, 23, 4], [], []), ([16, 17, 18, 19, 20, 21, 15, 22, 23, 4], [], []), ([16, 19, 20, 21, 15, 22, 23, 4], [], []), ([16, 20, 21, 15, 22, 23, 4], [], []), ([21, 15, 22, 23, 4], [], []), ([15, 22, 23, 4], [], []), ([22, 23, 4], [], []), ([22, 23, 4], [], []), ([23, 4], [], [])] (Exists.intro [16, 17, 18, 19, 20, 21, 15, 22, 23, 4] (And.intro (by decide +kernel) ?_))))))
 refine dp ?_
 (refine st ?_; apply Exists.intro; apply Exists.intro; apply And.intro; (focus ((conv => whnf); refine Exists.intro [] ?_; (conv => whnf); refine And.intro rfl ?_; (conv => whnf); refine Zk.mono (Zk.weak (rn []) (ZeX (ByteArray.mk #[91, 93]) _ hr7) rfl (WS.mk (tc Zb) Zc)) ?_; rintro d b ⟨rfl, rfl⟩; exact And.intro rfl (And.intro rfl rfl))); apply And.intro; (focus exact rfl); (conv => whnf))
 refine dp ?_
 refine de (ZcZ (f := Za.cells) (Zem (Za.cells_eq r7) (lc (lc (lc (lc Zn))))) (ZcZ (f := Za.cells) (Zem (Za.cells_eq (Za.mk 1 (ByteArray.mk #[97]) (Zi.mk ([] : List Zi)) ([] : List Za))) (lc (lc (ZbA WE.nil (ZbA WE.nil Zn))))) (Zbb (f := Za.cells)))) ?_
 refine dp ?_
 (refine st ?_; apply Exists.intro; apply Exists.intro; apply And.intro; (focus ((conv => whnf); refine Exists.intro [] ?_; (conv => whnf); refine And.intro rfl ?_; (conv => whnf); refine Zk.mono (Zk.weak (rn []) (Zh5 (Za.mk 1 (ByteArray.mk #[97]) (Zi.mk ([] : List Zi)) ([] : List Za)) (Za.mk 3 (ByteArray.mk #[]) (Zi.mk ([] : List Zi)) ([r7, (Za.mk 1 (ByteArray.mk #[97]) (Zi.mk ([] : List Zi)) ([] : List Za))])) _ hr8) rfl (WS.mk (Zd (Zq (lc (lc (ZbA WE.nil (ZbA WE.nil Zn))))) (Zd (Zq (lc (lc (ZbA WE.nil (lc Zn))))) Zb)) Zc)) ?_; rintro d b ⟨rfl, rfl⟩; exact And.intro rfl (And.intro rfl rfl))); apply And.intro; (focus exact rfl); (conv => whnf))
 refine dp ?_
 refine dp ?_
 refine dp ?_
 refine dp ?_
 refine st ?_
 refine AWP.seq ?_
 obtain ⟨r9, hr9, hF⟩ := bind_some hF
 obtain ⟨r10, Zqd, hF⟩ := bind_some hF
 obtain ⟨r11, ZrK, hF⟩ := bind_some hF
 refine ns ?_
 refine e3 ?_
 refine st ?_
 refine cm (Zk.weak (rn []) (ZeX (ByteArray.mk #[73, 110, 116]) _ hr9) rfl (WS.mk (tc Zb) Zc)) ?_
 refine st ?_
 refine e3 ?_
 refine st ?_
 refine cm (Zk.weak (rn []) (ZeX (ByteArray.mk #[66, 111, 111, 108]) _ Zqd) rfl (WS.mk (tc Zb) Zc)) ?_
 refine st ?_
 refine e3 ?_
 refine st ?_
 refine cm (Zk.weak (rn []) (Zh5 r9 r10 _ ZrK) rfl (WS.mk (Zd (Zq (lc (lc (lc (lc Zn))))) (Zd (Zq (lc (lc (lc (lc Zn))))) Zb)) Zc)) ?_
 refine st ?_
 refine AWP.seq ?_
 obtain ⟨c14, Zcx, hF⟩ := bind_some hF
 obtain ⟨c16, Zdu, hF⟩ := bind_some hF
 refine AWP.cutN (fun T => ∃ r, WS r T ⟨[(0, .c none (.v (.bool ((c16 && (r8.2 == 23)) && (r11.2 == 22)))))], []⟩) ?_ (fun T hw => ?_)
 ·refine ns ?_
  refine Zl true (fun Zdd => ?_) (fun Zdd => ?_)
  ·(conv => whnf)
   refine st ?_
   intro hlen12
   (try rw [List.length_map] at hlen12)
   (try rw [List.length_map])
   refine st ?_
   refine Zl true (fun ZiX => ?_) (fun ZiX => ?_)
   ·have Zcx := ift (And.intro Zdd ZiX) Zcx
    obtain ⟨x13, hx130, Zpa, Zcx⟩ := Zeo Zcx
    (conv => whnf)
    refine sr (ZdC (f := Zf.cells) (Zf.cells_eq x13) Zpa) ?_
    obtain rfl := Zh Zcx
    refine st ?_
    refine Zl true (fun Zey => ?_) (fun Zey => ?_)
    ·have Zdu := ift (And.intro Zdd (And.intro ZiX Zey)) Zdu
     obtain ⟨x15, ZzR, Zyt, Zdu⟩ := Zeo Zdu
     (conv => whnf)
     refine sr (ZdC (f := Zf.cells) (Zf.cells_eq x15) Zyt) ?_
     obtain rfl := Zh Zdu
     refine st ?_
     refine Zl true (fun Zge => ?_) (fun Zge => ?_)
     ·(conv => whnf)
      refine st ?_
      refine Zl true (fun ZfX => ?_) (fun ZfX => ?_)
      ·(conv => whnf)
       refine st ?_
       exact wx (WS.mk (Zd (Zp (web (And.intro Zdd (And.intro ZiX (And.intro Zey (And.intro Zge ZfX)))))) Zb) Zc)
      ·(conv => whnf)
       refine st ?_
       exact wx (WS.mk (Zd (Zp (web (And.intro Zdd (And.intro ZiX (And.intro Zey (And.intro Zge ZfX)))))) Zb) Zc)
     ·(conv => whnf)
      refine st ?_
      exact wx (WS.mk (Zd (Zp (web (And.intro Zdd (And.intro ZiX (And.intro Zey Zge))))) Zb) Zc)
    ·have Zdu := ife (And.intro Zdd (And.intro ZiX Zey)) Zdu
     (conv => whnf)
     obtain rfl := Zh Zdu
     refine st ?_
     exact wx (WS.mk (Zd (Zp (web (And.intro Zdd (And.intro ZiX Zey)))) Zb) Zc)
   ·have Zcx := ife (And.intro Zdd ZiX) Zcx
    (conv => whnf)
    obtain rfl := Zh Zcx
    have Zdu := ife (And.intro Zdd ZiX) Zdu
    obtain rfl := Zh Zdu
    refine st ?_
    exact wx (WS.mk (Zd (Zp (web (And.intro Zdd ZiX))) Zb) Zc)
  ·(conv => whnf)
   have Zcx := ife Zdd Zcx
   obtain rfl := Zh Zcx
   have Zdu := ife Zdd Zdu
   obtain rfl := Zh Zdu
   refine st ?_
   exact wx (WS.mk (Zd (Zp (web Zdd)) Zb) Zc)
 obtain ⟨r0, hw⟩ := hw
 (conv => whnf)
 refine AWP.weak r0 hw ?_
 obtain rfl := Zh hF
 refine ns ?_
 refine Exists.intro [] ?_
 refine st ?_
 exact wx (WS.mk (tc Zb) Zc)

def ZaR (l : (List Za)) (n_3 : Int) (i_4 : Nat) (Zbk : (List Za)) : Option (Bool) :=
 (match Zbk with
 | x22 :: Zuv =>
 ZaE x22 >>= fun r25 =>
 Zau x22 >>= fun r26 =>
 if (decide (r26 > 110)) = true then
 some false
 else
 ZaR l (IntKind.i64.wrap (n_3 + r25)) (i_4 + 1) Zuv
 | [] =>
 some (decide (n_3 ≤ 400)))
 partial_fixpoint
def ZaR.M (l : (List Za)) (n_3 : Int) (i_4 : Nat) (Zbk : (List Za)) (r : Bool) : Prop :=
 ∀ ZcQ : List Za, l = ZcQ ++ Zbk → i_4 = ZcQ.length → AWL Tryz.prog 26 (Code.sub (Zs Tryz.f10) [1, 1, 0, 1, 0, 0]) (Code.cont Tryz.prog 26 (Zs Tryz.f10) [1, 1, 0, 1, 0] (Zce tab Tryz.f10.results (Zch (.c none (.v (.bool r))) []))) ⟨[(0, .c none (.sl (l.map Za.cells))), (3, .c none (.v (.int .i64 n_3))), (4, .c none (.v (.int .i64 ((i_4 : Nat) : Int))))], []⟩
theorem ZjT (l : (List Za)) (n_3 : Int) (i_4 : Nat) (Zbk : (List Za)) : ∀ r, ZaR l n_3 i_4 Zbk = some r → ZaR.M l n_3 i_4 Zbk r := by
 refine ZaR.partial_correctness l (fun n_3 i_4 Zbk r => ZaR.M l n_3 i_4 Zbk r) ?_ n_3 i_4 Zbk
 intro lazyclaw18_small_l1' Zf7 n_3 i_4 Zbk r hF
 have Zkh := fun (_l : (List Za)) (n_3 : Int) (i_4 : Nat) (Zbk : (List Za)) => Zf7 n_3 i_4 Zbk
 clear Zf7
 unfold ZaR.M
 intro ZcQ Zgw Zgo
 refine AWL.step ?_
 refine AWP.seq ?_
 refine AWP.seq ?_
 refine ns ?_
 intro hlen21
 (try rw [List.length_map] at hlen21)
 (try rw [List.length_map])
 refine st ?_
 refine nw ?_
 refine ZK Zgw Zgo (fun x22 Zuv ZuI Zwd ZAJ => ?_) (fun ZuI => ?_)
 ·subst ZuI
  refine nw ?_
  refine AWP.seq ?_
  refine AWP.block ?_
  refine AWP.seq ?_
  obtain ⟨r25, ZxW, hF⟩ := bind_some hF
  refine nn ?_
  refine sr (Zag (f := Za.cells) (Za.cells_eq x22) Zwd) ?_
  refine st ?_
  refine e3 ?_
  refine st ?_
  refine cm (Zk.weak (rn []) (Zil x22 _ ZxW) rfl (WS.mk (Zd (Zq (lc (lc (lc (lc Zn))))) Zb) Zc)) ?_
  refine st ?_
  refine AWP.seq ?_
  obtain ⟨r26, ZEU, hF⟩ := bind_some hF
  refine nn ?_
  refine sr (Zag (f := Za.cells) (Za.cells_eq x22) Zwd) ?_
  refine st ?_
  refine e3 ?_
  refine st ?_
  refine cm (Zk.weak (rn []) (ZhA x22 _ ZEU) rfl (WS.mk (Zd (Zq (lc (lc (lc (lc Zn))))) Zb) Zc)) ?_
  refine st ?_
  refine nw ?_
  refine Zj hF (fun ZrS hF => ?_) (fun ZrS hF => ?_)
  ·refine AWP.seq ?_
   refine ns ?_
   obtain rfl := Zh hF
   refine ns ?_
   refine Exists.intro [] ?_
   refine st ?_
   exact wx (WS.mk (tc Zb) Zc)
  ·refine nw ?_
   refine ns ?_
   refine AWL.weak (rn []) ?_ (Zkh l (IntKind.i64.wrap (n_3 + r25)) (i_4 + 1) Zuv _ hF (ZcQ ++ [x22]) (by rw [Zgw]; simp) (by rw [Zgo]; simp))
   exact (WS.mk (tc (tc (Zd (Zp (Zc3 (ZX hlen21 ZAJ))) Zb))) Zc)
 ·subst ZuI
  refine nw ?_
  refine AWP.seq ?_
  refine ns ?_
  obtain rfl := Zh hF
  refine ns ?_
  refine Exists.intro [] ?_
  refine st ?_
  exact wx (WS.mk (tc Zb) Zc)

def ZcN (l : (List Za)) : Option (Bool) :=
 ZaR l 0 0 l
def ZcN.M (l : (List Za)) (r : Bool) : Prop :=
 Zk Tryz.prog 10 [.c none (.sl (l.map Za.cells))] [] (fun d b => d = .c none (.v (.bool r)) ∧ b = [])
theorem ZlS (l : (List Za)) (r : Bool) (hF : ZcN l = some r) : ZcN.M l r := by
 unfold ZcN at hF
 unfold ZcN.M
 refine en Tryz.func10 ?_
 refine AWP.seq ?_
 refine ns ?_
 refine AWP.seq ?_
 refine ns ?_
 refine AWP.seq ?_
 refine AWP.seq ?_
 refine ns ?_
 refine AWP.block ?_
 refine AWP.loop ?_
 refine AWL.weak (rn []) ?_ (ZjT l 0 0 l _ hF ([]) rfl rfl)
 exact (WS.mk (tc (tc (tc Zb))) Zc)

mutual
def ZcH (a : Zi) (b : Zi) : Option (Bool) :=
 Zao a.fArgs b.fArgs >>= fun r1 =>
 some r1
 partial_fixpoint
def Zao (s1_ : (List Zi)) (s2_ : (List Zi)) : Option (Bool) :=
 if (((s1_.length : Nat) : Int) != ((s2_.length : Nat) : Int)) = true then
 some false
 else
 ZW s2_ s1_ 0 s1_
 partial_fixpoint
def ZW (s2_ : (List Zi)) (s1_ : (List Zi)) (ZqL : Nat) (ZjJ : (List Zi)) : Option (Bool) :=
 (match ZjJ with
 | x21 :: ZAU =>
 (s2_[ZqL]?) >>= fun x24 =>
 ZcH x21 x24 >>= fun r25 =>
 if (!r25) = true then
 some false
 else
 ZW s2_ s1_ (ZqL + 1) ZAU
 | [] =>
 some true)
 partial_fixpoint
end
def ZcH.M (a : Zi) (b : Zi) (r : Bool) : Prop :=
 Zk Tryz.prog 125 [.agg [.sl (a.fArgs.map Zi.cells)], .agg [.sl (b.fArgs.map Zi.cells)]] [] (fun d b => d = .c none (.v (.bool r)) ∧ b = [])
def Zao.M (s1_ : (List Zi)) (s2_ : (List Zi)) (r : Bool) : Prop :=
 Zk Tryz.prog 139 [.c none (.sl (s1_.map Zi.cells)), .c none (.sl (s2_.map Zi.cells)), .c none (.v (.func (.func 125) #[] #[]))] [] (fun d b => d = .c none (.v (.bool r)) ∧ b = [])
def ZW.M (s2_ : (List Zi)) (s1_ : (List Zi)) (ZqL : Nat) (ZjJ : (List Zi)) (r : Bool) : Prop :=
 ∀ Znj : List Zi, s1_ = Znj ++ ZjJ → ZqL = Znj.length → s1_.length ≤ maxLen → s2_.length ≤ maxLen → AWL Tryz.prog 32 (Code.sub (Zs Tryz.f139) [1, 1, 0, 1, 0, 0]) (Code.cont Tryz.prog 32 (Zs Tryz.f139) [1, 1, 0, 1, 0] (Zce tab Tryz.f139.results (Zch (.c none (.v (.bool r))) []))) ⟨[(1, .c none (.sl (s2_.map Zi.cells))), (2, .c none (.v (.func (.func 125) #[] #[]))), (15, .c none (.sl (s1_.map Zi.cells))), (16, .c none (.v (.int .i64 ((s1_.length : Nat) : Int)))), (17, .c none (.v (.int .i64 ((ZqL : Nat) : Int))))], []⟩
theorem ZmC : (∀ (a : Zi) (b : Zi), ∀ r, ZcH a b = some r → ZcH.M a b r) ∧ (∀ (s1_ : (List Zi)) (s2_ : (List Zi)), ∀ r, Zao s1_ s2_ = some r → Zao.M s1_ s2_ r) ∧ (∀ (s2_ : (List Zi)) (s1_ : (List Zi)) (ZqL : Nat) (ZjJ : (List Zi)), ∀ r, ZW s2_ s1_ ZqL ZjJ = some r → ZW.M s2_ s1_ ZqL ZjJ r) := by
 refine ZcH.mutual_partial_correctness ZcH.M Zao.M ZW.M ?_ ?_ ?_
 ·intro slices_EqualFunc_Kind_types_SameKind' Ze0 a b r hF
  unfold ZcH.M
  refine en Tryz.func125 ?_
  refine AWP.seq ?_
  refine ns ?_
  refine AWP.seq ?_
  obtain ⟨r1, hr1, hF⟩ := bind_some hF
  refine ns ?_
  refine e3 ?_
  refine st ?_
  refine cm (Zk.weak (rn []) (Ze0 a.fArgs b.fArgs _ hr1) rfl (WS.mk (tc (tc (tc Zb))) Zc)) ?_
  refine st ?_
  obtain rfl := Zh hF
  refine ns ?_
  refine Exists.intro [] ?_
  refine st ?_
  exact wx (WS.mk (tc Zb) Zc)
 ·intro slices_EqualFunc_Kind_types_SameKind_l1' ZbW s1_ s2_ r hF
  unfold Zao.M
  refine en Tryz.func139 ?_
  refine AWP.seq ?_
  refine ns ?_
  refine AWP.seq ?_
  refine AWP.seq ?_
  refine ns ?_
  intro hlen4
  (try rw [List.length_map] at hlen4)
  (try rw [List.length_map])
  refine st ?_
  intro hlen5
  (try rw [List.length_map] at hlen5)
  (try rw [List.length_map])
  refine st ?_
  refine nw ?_
  refine Zj hF (fun hc6 hF => ?_) (fun hc6 hF => ?_)
  ·refine AWP.seq ?_
   refine ns ?_
   obtain rfl := Zh hF
   refine ns ?_
   refine Exists.intro [] ?_
   refine st ?_
   exact wx (WS.mk (tc Zb) Zc)
  ·refine nw ?_
   refine AWP.seq ?_
   refine AWP.seq ?_
   refine ns ?_
   intro hlen7
   (try rw [List.length_map] at hlen7)
   (try rw [List.length_map])
   refine st ?_
   refine AWP.block ?_
   refine AWP.loop ?_
   refine AWL.weak (rn []) ?_ (ZbW s2_ s1_ 0 s1_ _ hF ([]) rfl rfl hlen7 hlen5)
   exact (WS.mk (tc (tc (tc (tc (tc Zb))))) Zc)
 ·intro types_SameKind' slices_EqualFunc_Kind_types_SameKind_l1' Zny ZbW s2_ s1_ ZqL ZjJ r hF
  unfold ZW.M
  intro Znj ZvD ZvT hlen7 hlen5
  refine AWL.step ?_
  refine AWP.seq ?_
  refine ns ?_
  refine AWP.seq ?_
  refine nw ?_
  refine ZK ZvD ZvT (fun x21 ZAU ZAp ZFt ZEO => ?_) (fun ZAp => ?_)
  ·subst ZAp
   refine nw ?_
   refine AWP.seq ?_
   refine AWP.block ?_
   refine AWP.seq ?_
   refine nn ?_
   refine sr (Zag (f := Zi.cells) (Zi.cells_eq x21) ZFt) ?_
   refine st ?_
   refine AWP.seq ?_
   obtain ⟨x24, Zwd, hF⟩ := bind_some hF
   refine nn ?_
   refine sr (Zag (f := Zi.cells) (Zi.cells_eq x24) Zwd) ?_
   refine st ?_
   refine AWP.seq ?_
   obtain ⟨r25, ZxW, hF⟩ := bind_some hF
   refine ns ?_
   refine e3 ?_
   refine st ?_
   refine cm (Zk.weak (rn []) (Zny x21 x24 _ ZxW) rfl (WS.mk (Zd (Zq (lc Zn)) (Zd (Zq (lc Zn)) Zb)) Zc)) ?_
   refine st ?_
   refine nw ?_
   refine Zj hF (fun Zi2 hF => ?_) (fun Zi2 hF => ?_)
   ·refine AWP.seq ?_
    refine ns ?_
    obtain rfl := Zh hF
    refine ns ?_
    refine Exists.intro [] ?_
    refine st ?_
    exact wx (WS.mk (tc Zb) Zc)
   ·refine nw ?_
    refine ns ?_
    refine AWL.weak (rn []) ?_ (ZbW s2_ s1_ (ZqL + 1) ZAU _ hF (Znj ++ [x21]) (by rw [ZvD]; simp) (by rw [ZvT]; simp) hlen7 hlen5)
    exact (WS.mk (tc (tc (tc (tc (Zd (Zp (Zc3 (ZX hlen7 ZEO))) Zb))))) Zc)
  ·subst ZAp
   refine nw ?_
   refine AWP.seq ?_
   refine ns ?_
   obtain rfl := Zh hF
   refine ns ?_
   refine Exists.intro [] ?_
   refine st ?_
   exact wx (WS.mk (tc Zb) Zc)
theorem Zm5 : ∀ (a : Zi) (b : Zi), ∀ r, ZcH a b = some r → ZcH.M a b r := ZmC.1

mutual
def Za1 (a : Za) (b : Za) : Option (Bool) :=
 if ((a.fOp != b.fOp) || (((a.fKids.length : Nat) : Int) != ((b.fKids.length : Nat) : Int))) = true then
 some false
 else
 if (a.fOp == 1) = true then
 some (a.fName.toList == b.fName.toList)
 else
 if (a.fOp == 2) = true then
 some (a.fName.toList == b.fName.toList)
 else
 if (a.fOp == 4) = true then
 ZcH a.fBound b.fBound >>= fun r20 =>
 if (!r20) = true then
 some false
 else
 none
 else
 ZbD a 0 b a.fKids
 partial_fixpoint
def ZbD (a : Za) (ZqK : Nat) (b : Za) (Zkm : (List Za)) : Option (Bool) :=
 (match Zkm with
 | x70 :: ZAm =>
 (b.fKids[ZqK]?) >>= fun x75 =>
 Za1 x70 x75 >>= fun r76 =>
 if (!r76) = true then
 some false
 else
 ZbD a (ZqK + 1) b ZAm
 | [] =>
 some true)
 partial_fixpoint
end
def Za1.M (a : Za) (b : Za) (r : Bool) : Prop :=
 Zk Tryz.prog 100 [.c none (.nils), .agg [.v (.int .i64 a.fOp), .v (.string a.fName), .sl (a.fBound.fArgs.map Zi.cells), .sl (a.fKids.map Za.cells)], .agg [.v (.int .i64 b.fOp), .v (.string b.fName), .sl (b.fBound.fArgs.map Zi.cells), .sl (b.fKids.map Za.cells)]] [] (fun d b => d = .c none (.v (.bool r)) ∧ b = [])
def ZbD.M (a : Za) (ZqK : Nat) (b : Za) (Zkm : (List Za)) (r : Bool) : Prop :=
 ∀ Zm8 : List Za, a.fKids = Zm8 ++ Zkm → ZqK = Zm8.length → a.fKids.length ≤ maxLen → AWL Tryz.prog 105 (Code.sub (Zs Tryz.f100) [1, 1, 1, 0, 1, 0, 0]) (Code.cont Tryz.prog 105 (Zs Tryz.f100) [1, 1, 1, 0, 1, 0] (Zce tab Tryz.f100.results (Zch (.c none (.v (.bool r))) []))) ⟨[(0, .c none (.nils)), (4, .ptr 4 0), (5, .ptr 5 0), (6, .ptr 6 0), (87, .c none (.v (.int .i64 ((a.fKids.length : Nat) : Int)))), (88, .c none (.v (.int .i64 ((ZqK : Nat) : Int))))], [(4, [(none, .v (.int .i64 a.fOp)), (none, .v (.string a.fName)), (none, .sl (a.fBound.fArgs.map Zi.cells)), (none, .sl (a.fKids.map Za.cells))]), (5, [(none, .v (.int .i64 b.fOp)), (none, .v (.string b.fName)), (none, .sl (b.fBound.fArgs.map Zi.cells)), (none, .sl (b.fKids.map Za.cells))]), (6, [(none, .v (.bool false))])]⟩
theorem ZoK : (∀ (a : Za) (b : Za), ∀ r, Za1 a b = some r → Za1.M a b r) ∧ (∀ (a : Za) (ZqK : Nat) (b : Za) (Zkm : (List Za)), ∀ r, ZbD a ZqK b Zkm = some r → ZbD.M a ZqK b Zkm r) := by
 refine Za1.mutual_partial_correctness Za1.M ZbD.M ?_ ?_
 ·intro types_equal_l1' Zgs a b r hF
  unfold Za1.M
  refine en Tryz.func100 ?_
  refine AWP.seq ?_
  refine ns ?_
  refine AWP.seq ?_
  refine AWP.seq ?_
  refine AWP.cutN (fun T => ∃ r, WS r T ⟨[(0, .c none (.nils)), (4, .ptr 4 0), (5, .ptr 5 0), (6, .ptr 6 0), (23, .c none (.v (.bool ((a.fOp != b.fOp) || (((a.fKids.length : Nat) : Int) != ((b.fKids.length : Nat) : Int))))))], [(4, [(none, .v (.int .i64 a.fOp)), (none, .v (.string a.fName)), (none, .sl (a.fBound.fArgs.map Zi.cells)), (none, .sl (a.fKids.map Za.cells))]), (5, [(none, .v (.int .i64 b.fOp)), (none, .v (.string b.fName)), (none, .sl (b.fBound.fArgs.map Zi.cells)), (none, .sl (b.fKids.map Za.cells))]), (6, [(none, .v (.bool false))])]⟩) ?_ (fun T hw => ?_)
  ·refine ns ?_
   refine Zl false (fun hc6 => ?_) (fun hc6 => ?_)
   ·(conv => whnf)
    refine st ?_
    exact wx (WS.mk (tc (tp (tp (tp (Zd (Zp (web hc6)) Zb))))) (Ze rfl (cc (cc (cc (cc Zg)))) (Ze rfl (cc (cc (cc (cc Zg)))) (Ze rfl (cc Zg) Zc))))
   ·(conv => whnf)
    refine st ?_
    intro hlen4
    (try rw [List.length_map] at hlen4)
    (try rw [List.length_map])
    refine st ?_
    intro hlen5
    (try rw [List.length_map] at hlen5)
    (try rw [List.length_map])
    refine st ?_
    exact wx (WS.mk (tc (tp (tp (tp (Zd (Zp (web hc6)) Zb))))) (Ze rfl (cc (cc (cc (cc Zg)))) (Ze rfl (cc (cc (cc (cc Zg)))) (Ze rfl (cc Zg) Zc))))
  obtain ⟨r0, hw⟩ := hw
  (conv => whnf)
  refine AWP.weak r0 hw ?_
  refine nw ?_
  refine Zj hF (fun hc7 hF => ?_) (fun hc7 hF => ?_)
  ·refine AWP.seq ?_
   refine ns ?_
   obtain rfl := Zh hF
   refine ns ?_
   refine Exists.intro [] ?_
   refine st ?_
   exact wx (WS.mk (tc Zb) Zc)
  ·refine nw ?_
   refine AWP.seq ?_
   refine AWP.seq ?_
   refine ns ?_
   refine AWP.block ?_
   refine AWP.seq ?_
   refine ns ?_
   refine nw ?_
   refine Zj hF (fun Zen hF => ?_) (fun Zen hF => ?_)
   ·refine AWP.seq ?_
    refine AWP.seq ?_
    refine ns ?_
    refine Exists.intro [] (Exists.intro [] (Exists.intro [(2000, 29)] ?_))
    refine st ?_
    refine cm Zuu ?_
    refine st ?_
    refine AWP.block ?_
    refine nn ?_
    intro l0
    refine Exists.intro [] (Exists.intro [(29, 1000)] (Exists.intro [] ?_))
    refine st ?_
    refine cm (ZuH _) ?_
    refine st ?_
    refine AWP.seq ?_
    refine ns ?_
    obtain rfl := Zh hF
    refine ns ?_
    refine Exists.intro [] ?_
    refine st ?_
    exact wx (WS.mk (tc Zb) Zc)
   ·refine AWP.seq ?_
    refine ns ?_
    refine nw ?_
    refine Zj hF (fun Zdu hF => ?_) (fun Zdu hF => ?_)
    ·refine AWP.seq ?_
     refine ns ?_
     obtain rfl := Zh hF
     refine ns ?_
     refine Exists.intro [] ?_
     refine st ?_
     exact wx (WS.mk (tc Zb) Zc)
    ·refine AWP.seq ?_
     refine ns ?_
     refine nw ?_
     refine Zj hF (fun Zdd hF => ?_) (fun Zdd hF => ?_)
     ·refine AWP.seq ?_
      refine AWP.seq ?_
      obtain ⟨r20, ZBK, hF⟩ := bind_some hF
      refine ns ?_
      refine e3 ?_
      refine st ?_
      refine cm (Zk.weak (rn []) (Zm5 a.fBound b.fBound _ ZBK) rfl (WS.mk (Zd (Zq (lc Zn)) (Zd (Zq (lc Zn)) Zb)) Zc)) ?_
      refine st ?_
      refine nw ?_
      refine Zj hF (fun ZfX hF => ?_) (fun ZfX hF => ?_)
      ·refine AWP.seq ?_
       refine ns ?_
       obtain rfl := Zh hF
       refine ns ?_
       refine Exists.intro [] ?_
       refine st ?_
       exact wx (WS.mk (tc Zb) Zc)
      ·refine nw ?_
       cases hF
     ·refine nw ?_
      refine AWP.seq ?_
      refine AWP.seq ?_
      refine ns ?_
      intro hlen50
      (try rw [List.length_map] at hlen50)
      (try rw [List.length_map])
      refine st ?_
      refine AWP.block ?_
      refine AWP.loop ?_
      refine AWL.weak (rn []) ?_ (Zgs a 0 b a.fKids _ hF ([]) rfl rfl hlen50)
      exact (WS.mk (tc (tp (tp (tp (tc (tc Zb)))))) (Ze rfl (cc (cc (cc (cc Zg)))) (Ze rfl (cc (cc (cc (cc Zg)))) (Ze rfl (cc Zg) Zc))))
 ·intro types_equal' types_equal_l1' Zqw Zgs a ZqK b Zkm r hF
  unfold ZbD.M
  intro Zm8 Zu2 ZvB hlen50
  refine AWL.step ?_
  refine AWP.seq ?_
  refine ns ?_
  refine AWP.seq ?_
  refine nw ?_
  refine ZK Zu2 ZvB (fun x70 ZAm ZAB ZDP ZFw => ?_) (fun ZAB => ?_)
  ·subst ZAB
   refine nw ?_
   refine AWP.seq ?_
   refine AWP.block ?_
   refine AWP.seq ?_
   refine ns ?_
   refine AWP.seq ?_
   obtain ⟨x75, Zwo, hF⟩ := bind_some hF
   obtain ⟨r76, ZFi, hF⟩ := bind_some hF
   refine nn ?_
   refine Or.inl (Or.inl (Exists.intro 11 (Exists.intro [[], [], [], [], [], [], [], [], [], [], []] (Exists.intro [([91, 92, 93, 94, 95, 96, 97, 98, 99, 100, 101], [], []), ([91, 92, 93, 94, 95, 96, 97, 98, 99, 100, 101], [], []), ([91, 93, 94, 95, 96, 97, 98, 99, 100, 101], [], []), ([91, 92, 93, 94, 95, 96, 97, 98, 99, 100, 101], [], []), ([91, 95, 96, 97, 98, 99, 100, 101], [], []), ([91, 96, 97, 98, 99, 100, 101], [], []), ([91, 92, 93, 94, 95, 96, 97, 98, 99, 100, 101], [], []), ([91, 92, 93, 94, 95, 96, 98, 99, 100, 101], [], []), ([91, 92, 93, 94, 95, 96, 97, 98, 99, 100, 101], [], []), ([91, 92, 93, 94, 95, 96, 100, 101], [], []), ([91, 92, 93, 94, 95, 96, 101], [], [])] (Exists.intro [91, 92, 93, 94, 95, 96, 97, 98, 99, 100, 101] (And.intro (by decide +kernel) ?_))))))
   refine dp ?_
   refine dp ?_
   refine dp ?_
   refine dp ?_
   refine dr (Zag (Za.cells_eq x70) ZDP) ?_
   refine dp ?_
   refine dp ?_
   refine dp ?_
   refine dp ?_
   refine dr (Zag (Za.cells_eq x75) Zwo) ?_
   refine dp ?_
   refine st ?_
   refine e3 ?_
   refine st ?_
   refine cm (Zk.weak (rn []) (Zqw x70 x75 _ ZFi) rfl (WS.mk (tc (Zd (Zq (lc (lc (lc (lc Zn))))) (Zd (Zq (lc (lc (lc (lc Zn))))) Zb))) Zc)) ?_
   refine st ?_
   refine nw ?_
   refine Zj hF (fun ZEc hF => ?_) (fun ZEc hF => ?_)
   ·refine AWP.seq ?_
    refine ns ?_
    obtain rfl := Zh hF
    refine ns ?_
    refine Exists.intro [] ?_
    refine st ?_
    exact wx (WS.mk (tc Zb) Zc)
   ·refine nw ?_
    refine ns ?_
    refine AWL.weak (rn []) ?_ (Zgs a (ZqK + 1) b ZAm _ hF (Zm8 ++ [x70]) (by rw [Zu2]; simp) (by rw [ZvB]; simp) hlen50)
    exact (WS.mk (tc (tp (tp (tp (tc (Zd (Zp (Zc3 (ZX hlen50 ZFw))) Zb)))))) (Ze rfl (cc (cc (cc (cc Zg)))) (Ze rfl (cc (cc (cc (cc Zg)))) (Ze rfl (cc Zg) Zc))))
  ·subst ZAB
   refine nw ?_
   refine AWP.seq ?_
   refine ns ?_
   obtain rfl := Zh hF
   refine ns ?_
   refine Exists.intro [] ?_
   refine st ?_
   exact wx (WS.mk (tc Zb) Zc)
theorem ZpO : ∀ (a : Za) (b : Za), ∀ r, Za1 a b = some r → Za1.M a b r := ZoK.1

def Zec (a : Za) (b : Za) : Option (Bool) :=
 Zbm a >>= fun r1 =>
 (if (r1 == 0) = true then Zbm b >>= fun r2 =>
 some (r2 == 0) else some false) >>= fun c3 =>
 (if c3 = true then Za1 a b >>= fun r4 =>
 some r4 else some false) >>= fun c5 =>
 some c5
def Zec.M (a : Za) (b : Za) (r : Bool) : Prop :=
 Zk Tryz.prog 72 [.agg [.v (.int .i64 a.fOp), .v (.string a.fName), .sl (a.fBound.fArgs.map Zi.cells), .sl (a.fKids.map Za.cells)], .agg [.v (.int .i64 b.fOp), .v (.string b.fName), .sl (b.fBound.fArgs.map Zi.cells), .sl (b.fKids.map Za.cells)]] [] (fun d b => d = .c none (.v (.bool r)) ∧ b = [])
theorem Zp7 (a : Za) (b : Za) (r : Bool) (hF : Zec a b = some r) : Zec.M a b r := by
 unfold Zec at hF
 unfold Zec.M
 refine en Tryz.func72 ?_
 refine AWP.seq ?_
 refine ns ?_
 refine AWP.seq ?_
 obtain ⟨r1, hr1, hF⟩ := bind_some hF
 obtain ⟨c3, hc3, hF⟩ := bind_some hF
 obtain ⟨c5, hc5, hF⟩ := bind_some hF
 refine AWP.cutN (fun T => ∃ r, WS r T ⟨[(4, .c none (.v (.bool c5)))], []⟩) ?_ (fun T hw => ?_)
 ·refine ns ?_
  refine e3 ?_
  refine st ?_
  refine cm (Zk.weak (rn []) (Zdr a _ hr1) rfl (WS.mk (Zd (Zq (lc (lc (lc (lc Zn))))) Zb) Zc)) ?_
  refine st ?_
  refine Zl true (fun hc6 => ?_) (fun hc6 => ?_)
  ·have hc3 := ift hc6 hc3
   obtain ⟨r2, hr2, hc3⟩ := bind_some hc3
   (conv => whnf)
   refine st ?_
   refine e3 ?_
   refine st ?_
   refine cm (Zk.weak (rn []) (Zdr b _ hr2) rfl (WS.mk (Zd (Zq (lc (lc (lc (lc Zn))))) Zb) Zc)) ?_
   refine st ?_
   obtain rfl := Zh hc3
   refine st ?_
   refine Zl true (fun hc7 => ?_) (fun hc7 => ?_)
   ·have hc5 := ift (And.intro hc6 hc7) hc5
    obtain ⟨r4, hr4, hc5⟩ := bind_some hc5
    (conv => whnf)
    refine st ?_
    refine e3 ?_
    refine st ?_
    refine cm (Zk.weak (rn []) (ZpO a b _ hr4) rfl (WS.mk (tc (Zd (Zq (lc (lc (lc (lc Zn))))) (Zd (Zq (lc (lc (lc (lc Zn))))) Zb))) Zc)) ?_
    refine st ?_
    obtain rfl := Zh hc5
    refine st ?_
    exact wx (WS.mk (Zd (Zp (web (And.intro hc6 hc7))) Zb) Zc)
   ·have hc5 := ife (And.intro hc6 hc7) hc5
    (conv => whnf)
    obtain rfl := Zh hc5
    refine st ?_
    exact wx (WS.mk (Zd (Zp (web (And.intro hc6 hc7))) Zb) Zc)
  ·have hc3 := ife hc6 hc3
   (conv => whnf)
   obtain rfl := Zh hc3
   have hc5 := ife hc6 hc5
   obtain rfl := Zh hc5
   refine st ?_
   exact wx (WS.mk (Zd (Zp (web hc6)) Zb) Zc)
 obtain ⟨r0, hw⟩ := hw
 (conv => whnf)
 refine AWP.weak r0 hw ?_
 obtain rfl := Zh hF
 refine ns ?_
 refine Exists.intro [] ?_
 refine st ?_
 exact wx (WS.mk (tc Zb) Zc)

mutual
def Zaa (m : Za6) (p : Za) (t : Za) : Option (Bool × Za6) :=
 if (p.fOp == 1) = true then
 Zdf m.fat 0 p.fName >>= fun r28 =>
 if r28.2 = true then
 (ixI m.flist r28.1) >>= fun x32 =>
 Zec x32.fType t >>= fun r33 =>
 some (r33, m)
 else
 Zac ((m.flist.length + ([(Zf.mk p.fName t)]).length) * 88 ≤ 140737488355328) >>= fun _ =>
 some (true, Za6.mk (m.flist ++ ([(Zf.mk p.fName t)])) (Zfm m.fat p.fName ((m.flist.length : Nat) : Int)))
 else
 if (((p.fOp != t.fOp) || (!(p.fName.toList == t.fName.toList))) || (((p.fKids.length : Nat) : Int) != ((t.fKids.length : Nat) : Int))) = true then
 some (false, m)
 else
 ZO p 0 t m.flist m.fat p.fKids
 partial_fixpoint
def ZO (p : Za) (ZqW : Nat) (t : Za) (ZcY : (List Zf)) (ZcW : (List (ByteArray × Int))) (Zkk : (List Za)) : Option (Bool × Za6) :=
 (match Zkk with
 | x65 :: Zz4 =>
 (t.fKids[ZqW]?) >>= fun x70 =>
 Zaa (Za6.mk ZcY ZcW) x65 x70 >>= fun r71 =>
 if (!r71.1) = true then
 some (false, r71.2)
 else
 ZO p (ZqW + 1) t r71.2.flist r71.2.fat Zz4
 | [] =>
 some (true, Za6.mk ZcY ZcW))
 partial_fixpoint
end
def Zaa.M (m : Za6) (p : Za) (t : Za) (r : Bool × Za6) : Prop :=
 Zk Tryz.prog 47 [.ptr 1000 0, .agg [.v (.int .i64 p.fOp), .v (.string p.fName), .sl (p.fBound.fArgs.map Zi.cells), .sl (p.fKids.map Za.cells)], .agg [.v (.int .i64 t.fOp), .v (.string t.fName), .sl (t.fBound.fArgs.map Zi.cells), .sl (t.fKids.map Za.cells)]] [(1000, [((some (3000, 45)), .sl (m.flist.map Zf.cells)), (none, .rf 1001)]), (1001, [(none, .ob 109 (m.fat.map (Zcj c_S Zba)))])] (fun d b => d = .c none (.v (.bool r.1)) ∧ b = [(1000, [((some (3000, 45)), .sl (r.2.flist.map Zf.cells)), (none, .rf 1001)]), (1001, [(none, .ob 109 (r.2.fat.map (Zcj c_S Zba)))])])
def ZO.M (p : Za) (ZqW : Nat) (t : Za) (ZcY : (List Zf)) (ZcW : (List (ByteArray × Int))) (Zkk : (List Za)) (r : Bool × Za6) : Prop :=
 ∀ Znu : List Za, p.fKids = Znu ++ Zkk → ZqW = Znu.length → p.fKids.length ≤ maxLen → AWL Tryz.prog 99 (Code.sub (Zs Tryz.f47) [1, 1, 1, 0, 1, 0, 0]) (Code.cont Tryz.prog 99 (Zs Tryz.f47) [1, 1, 1, 0, 1, 0] (Zce tab Tryz.f47.results (Zch (.c none (.v (.bool r.1))) [(1000, [((some (3000, 45)), .sl (r.2.flist.map Zf.cells)), (none, .rf 1001)]), (1001, [(none, .ob 109 (r.2.fat.map (Zcj c_S Zba)))])]))) ⟨[(0, .ptr 1000 0), (4, .ptr 4 0), (5, .ptr 5 0), (81, .c none (.v (.int .i64 ((p.fKids.length : Nat) : Int)))), (82, .c none (.v (.int .i64 ((ZqW : Nat) : Int))))], [(4, [(none, .v (.int .i64 p.fOp)), (none, .v (.string p.fName)), (none, .sl (p.fBound.fArgs.map Zi.cells)), (none, .sl (p.fKids.map Za.cells))]), (5, [(none, .v (.int .i64 t.fOp)), (none, .v (.string t.fName)), (none, .sl (t.fBound.fArgs.map Zi.cells)), (none, .sl (t.fKids.map Za.cells))]), (1000, [((some (3000, 45)), .sl (ZcY.map Zf.cells)), (none, .rf 1001)]), (1001, [(none, .ob 109 (ZcW.map (Zcj c_S Zba)))])]⟩
theorem Zjz : (∀ (m : Za6) (p : Za) (t : Za), ∀ r, Zaa m p t = some r → Zaa.M m p t r) ∧ (∀ (p : Za) (ZqW : Nat) (t : Za) (ZcY : (List Zf)) (ZcW : (List (ByteArray × Int))) (Zkk : (List Za)), ∀ r, ZO p ZqW t ZcY ZcW Zkk = some r → ZO.M p ZqW t ZcY ZcW Zkk r) := by
 refine Zaa.mutual_partial_correctness Zaa.M ZO.M ?_ ?_
 ·intro unify_matcher_match_l1' Zd6 m p t r hF
  unfold Zaa.M
  refine en Tryz.func47 ?_
  refine AWP.seq ?_
  refine ns ?_
  refine AWP.seq ?_
  refine AWP.seq ?_
  refine ns ?_
  refine nw ?_
  refine Zj hF (fun Zey hF => ?_) (fun Zey hF => ?_)
  ·refine AWP.seq ?_
   refine AWP.seq ?_
   obtain ⟨r28, Zxf, hF⟩ := bind_some hF
   refine nn ?_
   refine Or.inl (Or.inl (Exists.intro 11 (Exists.intro [[], [], [], [], [], [], [], [], [], [], []] (Exists.intro [([14, 15, 16, 17, 18, 19, 20, 13, 21, 22, 7], [], []), ([15, 16, 17, 18, 19, 20, 13, 21, 22, 7], [], []), ([16, 17, 18, 19, 20, 13, 21, 22, 7], [], []), ([17, 18, 19, 20, 13, 21, 22, 7], [], []), ([14, 15, 16, 17, 18, 19, 20, 13, 21, 22, 7], [], []), ([14, 15, 16, 17, 19, 20, 13, 21, 22, 7], [], []), ([20, 13, 21, 22, 7], [], []), ([13, 21, 22, 7], [], []), ([21, 22, 7], [], []), ([21, 22, 7], [], []), ([22, 7], [], [])] (Exists.intro [14, 15, 16, 17, 18, 19, 20, 13, 21, 22, 7] (And.intro (by decide +kernel) ?_))))))
   refine dp ?_
   refine dp ?_
   refine dp ?_
   refine dp ?_
   refine dp ?_
   refine dp ?_
   (refine st ?_; apply Exists.intro; apply Exists.intro; apply And.intro; (focus (((repeat (first | ((conv => whnf); (with_reducible refine And.intro ?_ ?_); (focus (first | exact Eq.refl _ | exact trivial | (with_reducible assumption) | (with_reducible exact Int.natCast_nonneg _) | exact Nat.le_of_ble_eq_true (Eq.refl true) | exact ZcV (Eq.refl _) (Eq.refl _) (Eq.refl _) | decide))))); (conv => whnf)) <;> (refine ZeP (m := m.fat) (k := p.fName) Zeh (ev := Zba) Zxf rfl (fun x => ZiH x) rfl rfl (lc Zn) ?_) <;> ((repeat (first | ((conv => whnf); (with_reducible refine And.intro ?_ ?_); (focus (first | exact Eq.refl _ | exact trivial | (with_reducible assumption) | (with_reducible exact Int.natCast_nonneg _) | exact Nat.le_of_ble_eq_true (Eq.refl true) | exact ZcV (Eq.refl _) (Eq.refl _) (Eq.refl _) | decide))))); (conv => whnf)) <;> (exact rfl))); apply And.intro; (focus exact rfl); (conv => whnf))
   refine dp ?_
   refine dp ?_
   refine dp ?_
   refine dp ?_
   refine st ?_
   refine AWP.seq ?_
   refine ns ?_
   refine nw ?_
   refine Zj hF (fun ZlX hF => ?_) (fun ZlX hF => ?_)
   ·refine AWP.seq ?_
    obtain ⟨x32, ZzP, Zzi, hF⟩ := Zeo hF
    obtain ⟨r33, Zz7, hF⟩ := bind_some hF
    refine nn ?_
    refine Or.inl (Or.inl (Exists.intro 9 (Exists.intro [[], [], [], [], [], [], [], [], []] (Exists.intro [([24, 25, 26, 27, 28, 29, 30, 31, 32], [], []), ([25, 26, 27, 28, 29, 30, 31, 32], [], []), ([26, 27, 28, 29, 30, 31, 32], [], []), ([27, 28, 29, 30, 31, 32], [], []), ([24, 25, 26, 27, 28, 29, 30, 31, 32], [], []), ([29, 30, 31, 32], [], []), ([30, 31, 32], [], []), ([31, 32], [], []), ([24, 25, 26, 27, 28, 29, 30, 31, 32], [], [])] (Exists.intro [24, 25, 26, 27, 28, 29, 30, 31, 32] (And.intro (by decide +kernel) ?_))))))
    refine dp ?_
    refine dp ?_
    refine dp ?_
    refine dp ?_
    refine dp ?_
    refine dr (ZdC (Zf.cells_eq x32) Zzi) ?_
    refine dp ?_
    refine dp ?_
    refine dp ?_
    refine st ?_
    refine e3 ?_
    refine st ?_
    refine cm (Zk.weak (rn []) (Zp7 x32.fType t _ Zz7) rfl (WS.mk (Zd (Zq (lc (lc (lc (lc Zn))))) (Zd (Zq (lc (lc (lc (lc Zn))))) Zb)) Zc)) ?_
    refine st ?_
    obtain rfl := Zh hF
    refine ns ?_
    refine Exists.intro [(1000, 1000), (1001, 1001)] ?_
    refine st ?_
    exact Exists.intro (rn [(3000, 3000)]) (WS.mk (tc Zb) (Ze rfl (ZfY rfl (WE.refl _) (cc Zg)) (Ze rfl (cc Zg) Zc)))
   ·refine nw ?_
    refine AWP.seq ?_
    refine nn ?_
    refine Or.inl (Or.inl (Exists.intro 11 (Exists.intro [[], [], [], [], [], [], [], [], [], [], []] (Exists.intro [([34, 35, 36, 37, 38, 39, 40, 41, 42, 43, 44], [], []), ([35, 36, 37, 38, 39, 40, 41, 42, 43, 44], [], []), ([36, 37, 38, 39, 40, 41, 42, 43, 44], [], []), ([37, 38, 39, 40, 41, 42, 43, 44], [], []), ([34, 35, 36, 37, 38, 39, 40, 41, 42, 43, 44], [], []), ([34, 35, 36, 37, 39, 40, 41, 42, 43, 44], [], []), ([34, 35, 36, 37, 38, 39, 40, 41, 42, 43, 44], [], []), ([34, 35, 36, 37, 38, 39, 41, 42, 43, 44], [], []), ([34, 35, 36, 37, 38, 39, 42, 43, 44], [], []), ([34, 35, 36, 37, 38, 39, 43, 44], [], []), ([34, 35, 36, 37, 38, 39, 44], [], [])] (Exists.intro [34, 35, 36, 37, 38, 39, 40, 41, 42, 43, 44] (And.intro (by decide +kernel) ?_))))))
    refine dp ?_
    refine dp ?_
    refine dp ?_
    refine dp ?_
    refine dp ?_
    refine dp ?_
    refine dp ?_
    refine dp ?_
    refine dp ?_
    refine dp ?_
    refine dl ?_
    refine st ?_
    refine ZiK (m := m.fat) (k := p.fName) (v := ((m.flist.length : Nat) : Int)) Zeh (ev := Zba) (lc Zn) ?_
    refine st ?_
    refine AWP.seq ?_
    obtain ⟨ZDZ, hF⟩ := ZD hF
    refine nn ?_
    refine Or.inl (Or.inr (Exists.intro [0, 5, 6, 7, 8, 9] (Exists.intro [[45, 50, 51, 52, 53, 54], [45, 50, 51, 52, 53, 54], [45, 51, 52, 53, 54], [45, 50, 51, 52, 53, 54], [45, 53, 54], [45, 54]] (Exists.intro [4, 5] (Exists.intro [0, 4, 5, 45, 50, 51, 52, 53, 54] (Exists.intro [45, 50, 51, 52, 53, 54] (Exists.intro [1, 2, 3, 4, 10, 11, 12, 13] (And.intro (by decide +kernel) ?_))))))))
    refine dp ?_
    refine dp ?_
    refine dp ?_
    refine dp ?_
    refine dp ?_
    refine de (ZcZ (f := Zf.cells) (Zem (Zf.cells_eq (Zf.mk p.fName t)) (lc (lc (lc (lc (lc Zn)))))) (Zbb (f := Zf.cells))) ?_
    refine sa (fun l => Zc0 l (fun x => Zf.cells_len x)) ZDZ ?_
    refine Exists.intro _ (And.intro (WE.refl _) ?_)
    rw [← List.map_append]
    refine st ?_
    refine AWP.seq ?_
    refine ns ?_
    obtain rfl := Zh hF
    refine ns ?_
    refine Exists.intro [(1000, 1000), (1001, 1001)] ?_
    refine st ?_
    exact Exists.intro (rn [(55, 3000)]) (WS.mk (tc Zb) (Ze rfl (ZfY rfl (WE.refl _) (cc Zg)) (Ze rfl (cc Zg) Zc)))
  ·refine nw ?_
   refine AWP.seq ?_
   refine AWP.seq ?_
   refine AWP.cutN (fun T => ∃ r, WS r T ⟨[(0, .ptr 1000 0), (4, .ptr 4 0), (5, .ptr 5 0), (78, .c none (.v (.bool (((p.fOp != t.fOp) || (!(p.fName.toList == t.fName.toList))) || (((p.fKids.length : Nat) : Int) != ((t.fKids.length : Nat) : Int))))))], [(4, [(none, .v (.int .i64 p.fOp)), (none, .v (.string p.fName)), (none, .sl (p.fBound.fArgs.map Zi.cells)), (none, .sl (p.fKids.map Za.cells))]), (5, [(none, .v (.int .i64 t.fOp)), (none, .v (.string t.fName)), (none, .sl (t.fBound.fArgs.map Zi.cells)), (none, .sl (t.fKids.map Za.cells))]), (1000, [((some (3000, 45)), .sl (m.flist.map Zf.cells)), (none, .rf 1001)]), (1001, [(none, .ob 109 (m.fat.map (Zcj c_S Zba)))])]⟩) ?_ (fun T hw => ?_)
   ·refine ns ?_
    refine Zl false (fun ZqU => ?_) (fun ZqU => ?_)
    ·(conv => whnf)
     refine st ?_
     exact Exists.intro (rn [(3000, 3000)]) (WS.mk (tp (tp (tp (Zd (Zp (web ZqU)) Zb)))) (Ze rfl (cc (cc (cc (cc Zg)))) (Ze rfl (cc (cc (cc (cc Zg)))) (Ze rfl (ZfY rfl (WE.refl _) (cc Zg)) (Ze rfl (cc Zg) Zc)))))
    ·(conv => whnf)
     refine st ?_
     refine Zl false (fun Zt6 => ?_) (fun Zt6 => ?_)
     ·(conv => whnf)
      refine st ?_
      exact Exists.intro (rn [(3000, 3000)]) (WS.mk (tp (tp (tp (Zd (Zp (web (And.intro ZqU Zt6))) Zb)))) (Ze rfl (cc (cc (cc (cc Zg)))) (Ze rfl (cc (cc (cc (cc Zg)))) (Ze rfl (ZfY rfl (WE.refl _) (cc Zg)) (Ze rfl (cc Zg) Zc)))))
     ·(conv => whnf)
      refine st ?_
      intro hlen40
      (try rw [List.length_map] at hlen40)
      (try rw [List.length_map])
      refine st ?_
      intro hlen41
      (try rw [List.length_map] at hlen41)
      (try rw [List.length_map])
      refine st ?_
      exact Exists.intro (rn [(3000, 3000)]) (WS.mk (tp (tp (tp (Zd (Zp (web (And.intro ZqU Zt6))) Zb)))) (Ze rfl (cc (cc (cc (cc Zg)))) (Ze rfl (cc (cc (cc (cc Zg)))) (Ze rfl (ZfY rfl (WE.refl _) (cc Zg)) (Ze rfl (cc Zg) Zc)))))
   obtain ⟨r0, hw⟩ := hw
   (conv => whnf)
   refine AWP.weak r0 hw ?_
   refine nw ?_
   refine Zj hF (fun ZFb hF => ?_) (fun ZFb hF => ?_)
   ·refine AWP.seq ?_
    refine ns ?_
    obtain rfl := Zh hF
    refine ns ?_
    refine Exists.intro [(1000, 1000), (1001, 1001)] ?_
    refine st ?_
    exact Exists.intro (rn [(3000, 3000)]) (WS.mk (tc Zb) (Ze rfl (ZfY rfl (WE.refl _) (cc Zg)) (Ze rfl (cc Zg) Zc)))
   ·refine nw ?_
    refine AWP.seq ?_
    refine AWP.seq ?_
    refine ns ?_
    intro hlen45
    (try rw [List.length_map] at hlen45)
    (try rw [List.length_map])
    refine st ?_
    refine AWP.block ?_
    refine AWP.loop ?_
    refine AWL.weak (rn [(3000, 3000)]) ?_ (Zd6 p 0 t m.flist m.fat p.fKids _ hF ([]) rfl rfl hlen45)
    exact (WS.mk (tp (tp (tp (tc (tc Zb))))) (Ze rfl (cc (cc (cc (cc Zg)))) (Ze rfl (cc (cc (cc (cc Zg)))) (Ze rfl (ZfY rfl (WE.refl _) (cc Zg)) (Ze rfl (cc Zg) Zc)))))
 ·intro unify_matcher_match' unify_matcher_match_l1' Zko Zd6 p ZqW t ZcY ZcW Zkk r hF
  unfold ZO.M
  intro Znu Zvd Zv0 hlen45
  refine AWL.step ?_
  refine AWP.seq ?_
  refine ns ?_
  refine AWP.seq ?_
  refine nw ?_
  refine ZK Zvd Zv0 (fun x65 Zz4 ZAP ZzZ ZFd => ?_) (fun ZAP => ?_)
  ·subst ZAP
   refine nw ?_
   refine AWP.seq ?_
   refine AWP.block ?_
   refine AWP.seq ?_
   refine ns ?_
   refine AWP.seq ?_
   obtain ⟨x70, ZET, hF⟩ := bind_some hF
   obtain ⟨r71, ZFj, hF⟩ := bind_some hF
   refine nn ?_
   refine Or.inl (Or.inl (Exists.intro 11 (Exists.intro [[], [], [], [], [], [], [], [], [], [], []] (Exists.intro [([85, 86, 87, 88, 89, 90, 91, 92, 93, 94, 95], [], []), ([85, 86, 87, 88, 89, 90, 91, 92, 93, 94, 95], [], []), ([85, 87, 88, 89, 90, 91, 92, 93, 94, 95], [], []), ([85, 86, 87, 88, 89, 90, 91, 92, 93, 94, 95], [], []), ([85, 89, 90, 91, 92, 93, 94, 95], [], []), ([85, 90, 91, 92, 93, 94, 95], [], []), ([85, 86, 87, 88, 89, 90, 91, 92, 93, 94, 95], [], []), ([85, 86, 87, 88, 89, 90, 92, 93, 94, 95], [], []), ([85, 86, 87, 88, 89, 90, 91, 92, 93, 94, 95], [], []), ([85, 86, 87, 88, 89, 90, 94, 95], [], []), ([85, 86, 87, 88, 89, 90, 95], [], [])] (Exists.intro [85, 86, 87, 88, 89, 90, 91, 92, 93, 94, 95] (And.intro (by decide +kernel) ?_))))))
   refine dp ?_
   refine dp ?_
   refine dp ?_
   refine dp ?_
   refine dr (Zag (Za.cells_eq x65) ZzZ) ?_
   refine dp ?_
   refine dp ?_
   refine dp ?_
   refine dp ?_
   refine dr (Zag (Za.cells_eq x70) ZET) ?_
   refine dp ?_
   refine st ?_
   refine Exists.intro [] (Exists.intro [(1000, 1000), (1001, 1001)] (Exists.intro [] ?_))
   refine st ?_
   refine cm (Zk.weak (rn [(3000, 3000)]) (Zko (Za6.mk ZcY ZcW) x65 x70 _ ZFj) rfl (WS.mk (tp (Zd (Zq (lc (lc (lc (lc Zn))))) (Zd (Zq (lc (lc (lc (lc Zn))))) Zb))) (Ze rfl (ZfY rfl (WE.refl _) (cc Zg)) (Ze rfl (cc Zg) Zc)))) ?_
   refine st ?_
   refine nw ?_
   refine Zj hF (fun ZBC hF => ?_) (fun ZBC hF => ?_)
   ·refine AWP.seq ?_
    refine ns ?_
    obtain rfl := Zh hF
    refine ns ?_
    refine Exists.intro [(1000, 1000), (1001, 1001)] ?_
    refine st ?_
    exact Exists.intro (rn [(3000, 3000)]) (WS.mk (tc Zb) (Ze rfl (ZfY rfl (WE.refl _) (cc Zg)) (Ze rfl (cc Zg) Zc)))
   ·refine nw ?_
    refine ns ?_
    refine AWL.weak (rn [(3000, 3000)]) ?_ (Zd6 p (ZqW + 1) t r71.2.flist r71.2.fat Zz4 _ hF (Znu ++ [x65]) (by rw [Zvd]; simp) (by rw [Zv0]; simp) hlen45)
    exact (WS.mk (tp (tp (tp (tc (Zd (Zp (Zc3 (ZX hlen45 ZFd))) Zb))))) (Ze rfl (cc (cc (cc (cc Zg)))) (Ze rfl (cc (cc (cc (cc Zg)))) (Ze rfl (ZfY rfl (WE.refl _) (cc Zg)) (Ze rfl (cc Zg) Zc)))))
  ·subst ZAP
   refine nw ?_
   refine AWP.seq ?_
   refine ns ?_
   obtain rfl := Zh hF
   refine ns ?_
   refine Exists.intro [(1000, 1000), (1001, 1001)] ?_
   refine st ?_
   exact Exists.intro (rn [(3000, 3000)]) (WS.mk (tc Zb) (Ze rfl (ZfY rfl (WE.refl _) (cc Zg)) (Ze rfl (cc Zg) Zc)))
theorem ZjK : ∀ (m : Za6) (p : Za) (t : Za), ∀ r, Zaa m p t = some r → Zaa.M m p t r := Zjz.1

def ZaP (name_ : ByteArray) (i_5 : Nat) (s : (List Zf)) (Zes : (List Zf)) : Option (Int) :=
 (match Zes with
 | x16 :: Zj1 =>
 if (x16.fName.toList == name_.toList) = true then
 some ((i_5 : Nat) : Int)
 else
 ZaP name_ (i_5 + 1) s Zj1
 | [] =>
 some (-1))
 partial_fixpoint
def ZaP.M (name_ : ByteArray) (i_5 : Nat) (s : (List Zf)) (Zes : (List Zf)) (r : Int) : Prop :=
 ∀ ZhO : List Zf, s = ZhO ++ Zes → i_5 = ZhO.length → AWL Tryz.prog 20 (Code.sub (Zs Tryz.f46) [1, 0, 1, 0, 0]) (Code.cont Tryz.prog 20 (Zs Tryz.f46) [1, 0, 1, 0] (Zce tab Tryz.f46.results (Zch (.c none (.v (.int .i64 r))) [(1000, [(none, .ob 90 (s.map Zf.cells))])]))) ⟨[(0, .c none (.rs 1000 s.length)), (1, .c none (.v (.string name_))), (5, .c none (.v (.int .i64 ((i_5 : Nat) : Int))))], [(1000, [(none, .ob 90 (s.map Zf.cells))])]⟩
theorem ZjI (name_ : ByteArray) (i_5 : Nat) (s : (List Zf)) (Zes : (List Zf)) : ∀ r, ZaP name_ i_5 s Zes = some r → ZaP.M name_ i_5 s Zes r := by
 refine ZaP.partial_correctness name_ s (fun i_5 Zes r => ZaP.M name_ i_5 s Zes r) ?_ i_5 Zes
 intro lazycref18_find__l1' Zga i_5 Zes r hF
 have Zj7 := fun (_name_ : ByteArray) (i_5 : Nat) (_s : (List Zf)) (Zes : (List Zf)) => Zga i_5 Zes
 clear Zga
 unfold ZaP.M
 intro ZhO Zpv ZpJ
 refine AWL.step ?_
 refine AWP.seq ?_
 refine AWP.seq ?_
 refine ns ?_
 intro hlen15
 (try rw [List.length_map] at hlen15)
 (try rw [List.length_map])
 refine st ?_
 refine nw ?_
 refine ZK Zpv ZpJ (fun x16 Zj1 Zj6 ZqS Zsq => ?_) (fun Zj6 => ?_)
 ·subst Zj6
  refine nw ?_
  refine AWP.seq ?_
  refine AWP.block ?_
  refine AWP.seq ?_
  refine ns ?_
  refine And.intro (Zpq ZqS) ?_
  refine st ?_
  refine sr (Zag (f := Zf.cells) (Zf.cells_eq x16) ZqS) ?_
  refine st ?_
  refine nw ?_
  refine Zj hF (fun Zey hF => ?_) (fun Zey hF => ?_)
  ·refine AWP.seq ?_
   refine ns ?_
   obtain rfl := Zh hF
   refine ns ?_
   refine Exists.intro [(1000, 1000)] ?_
   refine st ?_
   exact wx (WS.mk (tc Zb) (Ze rfl (cc Zg) Zc))
  ·refine nw ?_
   refine ns ?_
   refine AWL.weak (rn []) ?_ (Zj7 name_ (i_5 + 1) s Zj1 _ hF (ZhO ++ [x16]) (by rw [Zpv]; simp) (by rw [ZpJ]; simp))
   exact (WS.mk (Zd (Zp (ZV (by first | exact rfl | simp only [List.length_set]))) (tc (Zd (Zp (Zc3 (ZX hlen15 Zsq))) Zb))) (Ze rfl (cc Zg) Zc))
 ·subst Zj6
  refine nw ?_
  refine AWP.seq ?_
  refine ns ?_
  obtain rfl := Zh hF
  refine ns ?_
  refine Exists.intro [(1000, 1000)] ?_
  refine st ?_
  exact wx (WS.mk (tc Zb) (Ze rfl (cc Zg) Zc))

def ZbG (s : (List Zf)) (name_ : ByteArray) : Option (Int) :=
 ZaP name_ 0 s s
def ZbG.M (s : (List Zf)) (name_ : ByteArray) (r : Int) : Prop :=
 Zk Tryz.prog 46 [.c none (.rs 1000 s.length), .c none (.v (.string name_))] [(1000, [(none, .ob 90 (s.map Zf.cells))])] (fun d b => d = .c none (.v (.int .i64 r)) ∧ b = [(1000, [(none, .ob 90 (s.map Zf.cells))])])
theorem ZhC (s : (List Zf)) (name_ : ByteArray) (r : Int) (hF : ZbG s name_ = some r) : ZbG.M s name_ r := by
 unfold ZbG at hF
 unfold ZbG.M
 refine en Tryz.func46 ?_
 refine AWP.seq ?_
 refine ns ?_
 refine AWP.seq ?_
 refine AWP.seq ?_
 refine ns ?_
 refine AWP.block ?_
 refine AWP.loop ?_
 refine AWL.weak (rn []) ?_ (ZjI name_ 0 s s _ hF ([]) rfl rfl)
 exact (WS.mk (Zd (Zp (ZV (by first | exact rfl | simp only [List.length_set]))) (tc (tc Zb))) (Ze rfl (cc Zg) Zc))

mutual
def ZT (s : (List Zf)) (p : Za) (t : Za) : Option ((List Zf) × Bool × (List Zf)) :=
 if (p.fOp == 1) = true then
 ZbG s p.fName >>= fun r22 =>
 if (decide (r22 ≥ 0)) = true then
 (ixI s r22) >>= fun x26 =>
 Zcu x26.fType t >>= fun r27 =>
 some (s, r27, s)
 else
 Zac ((s.length + ([(Zf.mk p.fName t)]).length) * 88 ≤ 140737488355328) >>= fun _ =>
 some (s ++ ([(Zf.mk p.fName t)]), true, s ++ ([(Zf.mk p.fName t)]))
 else
 if ((p.fOp != t.fOp) || (!(p.fName.toList == t.fName.toList))) = true then
 some (([] : List Zf), false, ([] : List Zf))
 else
 ZS true 0 p t s
 partial_fixpoint
def ZS (Zhj : Bool) (Zfj : Nat) (p : Za) (t : Za) (Zer : (List Zf)) : Option ((List Zf) × Bool × (List Zf)) :=
 if ((decide (((Zfj : Nat) : Int) < ((p.fKids.length : Nat) : Int))) && Zhj) = true then
 (p.fKids[Zfj]?) >>= fun x82 =>
 (t.fKids[Zfj]?) >>= fun x83 =>
 ZT Zer x82 x83 >>= fun r84 =>
 Zac (Zfj + 1 ≤ 9223372036854775807) >>= fun _ =>
 ZS r84.2.1 (Zfj + 1) p t r84.2.2
 else
 some (Zer, Zhj, Zer)
 partial_fixpoint
end
def ZT.M (s : (List Zf)) (p : Za) (t : Za) (r : (List Zf) × Bool × (List Zf)) : Prop :=
 Zk Tryz.prog 48 [.c none (.rs 7000 s.length), .agg [.v (.int .i64 p.fOp), .v (.string p.fName), .sl (p.fBound.fArgs.map Zi.cells), .sl (p.fKids.map Za.cells)], .agg [.v (.int .i64 t.fOp), .v (.string t.fName), .sl (t.fBound.fArgs.map Zi.cells), .sl (t.fKids.map Za.cells)]] [(7000, [(none, .ob 90 (s.map Zf.cells))])] (fun d b => d = .tup [.c (.rs 7000 r.2.2.length), .c (.v (.bool r.2.1))] ∧ b = [(7000, [(none, .ob 90 (r.2.2.map Zf.cells))])])
def ZS.M (Zhj : Bool) (Zfj : Nat) (p : Za) (t : Za) (Zer : (List Zf)) (r : (List Zf) × Bool × (List Zf)) : Prop :=
 AWL Tryz.prog 74 (Code.sub (Zs Tryz.f48) [1, 1, 1, 1, 0, 1, 0, 0]) (Code.cont Tryz.prog 74 (Zs Tryz.f48) [1, 1, 1, 1, 0, 1, 0] (Zce tab Tryz.f48.results (Zch (.tup [.c (.rs 7000 r.2.2.length), .c (.v (.bool r.2.1))]) [(7000, [(none, .ob 90 (r.2.2.map Zf.cells))])]))) ⟨[(0, .c none (.rs 7000 Zer.length)), (4, .ptr 4 0), (5, .ptr 5 0), (9, .c none (.v (.bool Zhj))), (10, .c none (.v (.int .i64 ((Zfj : Nat) : Int))))], [(4, [(none, .v (.int .i64 p.fOp)), (none, .v (.string p.fName)), (none, .sl (p.fBound.fArgs.map Zi.cells)), (none, .sl (p.fKids.map Za.cells))]), (5, [(none, .v (.int .i64 t.fOp)), (none, .v (.string t.fName)), (none, .sl (t.fBound.fArgs.map Zi.cells)), (none, .sl (t.fKids.map Za.cells))]), (7000, [(none, .ob 90 (Zer.map Zf.cells))])]⟩
theorem Zkr : (∀ (s : (List Zf)) (p : Za) (t : Za), ∀ r, ZT s p t = some r → ZT.M s p t r) ∧ (∀ (Zhj : Bool) (Zfj : Nat) (p : Za) (t : Za) (Zer : (List Zf)), ∀ r, ZS Zhj Zfj p t Zer = some r → ZS.M Zhj Zfj p t Zer r) := by
 refine ZT.mutual_partial_correctness ZT.M ZS.M ?_ ?_
 ·intro lazycref18_match___l1' Zej s p t r hF
  unfold ZT.M
  refine en Tryz.func48 ?_
  refine AWP.seq ?_
  refine ns ?_
  refine AWP.seq ?_
  refine AWP.seq ?_
  refine ns ?_
  refine nw ?_
  refine Zj hF (fun Zen hF => ?_) (fun Zen hF => ?_)
  ·refine AWP.seq ?_
   refine AWP.seq ?_
   obtain ⟨r22, Zt3, hF⟩ := bind_some hF
   refine ns ?_
   refine Exists.intro [] (Exists.intro [(7000, 1000)] (Exists.intro [] ?_))
   refine st ?_
   refine cm (Zk.weak (rn []) (ZhC s p.fName _ Zt3) rfl (WS.mk (Zd (Zp (ZV (by first | exact rfl | simp only [List.length_set]))) (tc Zb)) (Ze rfl (cc Zg) Zc))) ?_
   refine st ?_
   refine AWP.seq ?_
   refine ns ?_
   refine nw ?_
   refine Zj hF (fun Zlj hF => ?_) (fun Zlj hF => ?_)
   ·refine AWP.seq ?_
    obtain ⟨x26, ZCF, ZCt, hF⟩ := Zeo hF
    obtain ⟨r27, ZBS, hF⟩ := bind_some hF
    refine nn ?_
    refine Or.inl (Or.inr (Exists.intro [0, 1, 6] (Exists.intro [[20, 21, 26], [20, 21, 26], [20, 21, 26]] (Exists.intro [5] (Exists.intro [0, 5, 20, 21, 26] (Exists.intro [20, 21, 26] (Exists.intro [2, 3, 4, 5, 7, 8, 9] (And.intro (by decide +kernel) ?_))))))))
    refine dp ?_
    refine dp ?_
    refine dp ?_
    refine st ?_
    refine And.intro (Zp0 ZCF ZCt) ?_
    refine st ?_
    refine sr (ZdC (f := Zf.cells) (Zf.cells_eq x26) ZCt) ?_
    refine st ?_
    refine e3 ?_
    refine st ?_
    refine cm (Zk.weak (rn []) (ZlO x26.fType t _ ZBS) rfl (WS.mk (Zd (Zq (lc (lc (lc (lc Zn))))) (Zd (Zq (lc (lc (lc (lc Zn))))) Zb)) Zc)) ?_
    refine st ?_
    obtain rfl := Zh hF
    refine ns ?_
    refine Exists.intro [(7000, 7000)] ?_
    refine st ?_
    exact wx (WS.mk (Zd (Zcg (ZbV (ZV (by first | exact rfl | simp only [List.length_set])) (ZbV (WE.refl _) Zck))) Zb) (Ze rfl (cc Zg) Zc))
   ·refine nw ?_
    refine AWP.seq ?_
    obtain ⟨ZDR, hF⟩ := ZD hF
    refine ns ?_
    refine Exists.intro _ (And.intro (ZcZ (f := Zf.cells) (Zem (Zf.cells_eq (Zf.mk p.fName t)) (lc (lc (lc (lc (lc Zn)))))) (Zbb (f := Zf.cells))) ?_)
    refine sa (fun l => Zc0 l (fun x => Zf.cells_len x)) ZDR ?_
    refine Exists.intro (([(Zf.mk p.fName t)]).map Zf.cells) (Exists.intro ((s ++ ([(Zf.mk p.fName t)])).map Zf.cells) (Exists.intro (s ++ ([(Zf.mk p.fName t)])).length (And.intro (WE.refl _) (And.intro (Zp3 (by first | exact rfl | simp only [List.length_set])) (And.intro (ZpW (by first | exact rfl | simp only [List.length_set]) (by first | exact List.length_map _ | exact rfl)) ?_)))))
    refine st ?_
    obtain rfl := Zh hF
    refine ns ?_
    refine Exists.intro [(7000, 7000)] ?_
    refine st ?_
    exact wx (WS.mk (Zd (Zcg (ZbV (ZV (by first | exact rfl | simp only [List.length_set])) (ZbV (WE.refl _) Zck))) Zb) (Ze rfl (cc Zg) Zc))
  ·refine nw ?_
   refine AWP.seq ?_
   refine AWP.seq ?_
   refine AWP.cutN (fun T => ∃ r, WS r T ⟨[(0, .c none (.rs 7000 s.length)), (4, .ptr 4 0), (5, .ptr 5 0), (46, .c none (.v (.bool ((p.fOp != t.fOp) || (!(p.fName.toList == t.fName.toList))))))], [(4, [(none, .v (.int .i64 p.fOp)), (none, .v (.string p.fName)), (none, .sl (p.fBound.fArgs.map Zi.cells)), (none, .sl (p.fKids.map Za.cells))]), (5, [(none, .v (.int .i64 t.fOp)), (none, .v (.string t.fName)), (none, .sl (t.fBound.fArgs.map Zi.cells)), (none, .sl (t.fKids.map Za.cells))]), (7000, [(none, .ob 90 (s.map Zf.cells))])]⟩) ?_ (fun T hw => ?_)
   ·refine ns ?_
    refine Zl false (fun ZkZ => ?_) (fun ZkZ => ?_)
    ·(conv => whnf)
     refine st ?_
     exact wx (WS.mk (Zd (Zp (ZV (by first | exact rfl | simp only [List.length_set]))) (tp (tp (Zd (Zp (web ZkZ)) Zb)))) (Ze rfl (cc (cc (cc (cc Zg)))) (Ze rfl (cc (cc (cc (cc Zg)))) (Ze rfl (cc Zg) Zc))))
    ·(conv => whnf)
     refine st ?_
     exact wx (WS.mk (Zd (Zp (ZV (by first | exact rfl | simp only [List.length_set]))) (tp (tp (Zd (Zp (web ZkZ)) Zb)))) (Ze rfl (cc (cc (cc (cc Zg)))) (Ze rfl (cc (cc (cc (cc Zg)))) (Ze rfl (cc Zg) Zc))))
   obtain ⟨r0, hw⟩ := hw
   (conv => whnf)
   refine AWP.weak r0 hw ?_
   refine nw ?_
   refine Zj hF (fun ZtQ hF => ?_) (fun ZtQ hF => ?_)
   ·refine AWP.seq ?_
    refine ns ?_
    refine AWP.thaw 6 7000 45 rfl ?_
    refine AWP.force ?_
    (conv => whnf)
    obtain rfl := Zh hF
    refine ns ?_
    refine Exists.intro [(7000, 7000)] ?_
    refine st ?_
    exact wx (WS.mk (Zd (Zcg (ZbV (ZV (by first | exact rfl | simp only [List.length_set])) (ZbV (WE.refl _) Zck))) Zb) (Ze rfl (cc Zg) Zc))
   ·refine nw ?_
    refine AWP.seq ?_
    refine ns ?_
    refine AWP.seq ?_
    refine AWP.seq ?_
    refine ns ?_
    refine AWP.block ?_
    refine AWP.loop ?_
    refine AWL.weak (rn []) ?_ (Zej true 0 p t s _ hF)
    exact (WS.mk (Zd (Zp (ZV (by first | exact rfl | simp only [List.length_set]))) (tp (tp (tc (tc Zb))))) (Ze rfl (cc (cc (cc (cc Zg)))) (Ze rfl (cc (cc (cc (cc Zg)))) (Ze rfl (cc Zg) Zc))))
 ·intro lazycref18_match__' lazycref18_match___l1' ZkB Zej Zhj Zfj p t Zer r hF
  unfold ZS.M
  refine AWL.step ?_
  refine AWP.seq ?_
  refine AWP.seq ?_
  refine AWP.cutN (fun T => ∃ r, WS r T ⟨[(0, .c none (.rs 7000 Zer.length)), (4, .ptr 4 0), (5, .ptr 5 0), (9, .c none (.v (.bool Zhj))), (10, .c none (.v (.int .i64 ((Zfj : Nat) : Int)))), (54, .c none (.v (.bool ((decide (((Zfj : Nat) : Int) < ((p.fKids.length : Nat) : Int))) && Zhj))))], [(4, [(none, .v (.int .i64 p.fOp)), (none, .v (.string p.fName)), (none, .sl (p.fBound.fArgs.map Zi.cells)), (none, .sl (p.fKids.map Za.cells))]), (5, [(none, .v (.int .i64 t.fOp)), (none, .v (.string t.fName)), (none, .sl (t.fBound.fArgs.map Zi.cells)), (none, .sl (t.fKids.map Za.cells))]), (7000, [(none, .ob 90 (Zer.map Zf.cells))])]⟩) ?_ (fun T hw => ?_)
  ·refine ns ?_
   intro hlen69
   (try rw [List.length_map] at hlen69)
   (try rw [List.length_map])
   refine st ?_
   refine Zl true (fun Zw8 => ?_) (fun Zw8 => ?_)
   ·(conv => whnf)
    refine st ?_
    exact wx (WS.mk (Zd (Zp (ZV (by first | exact rfl | simp only [List.length_set]))) (tp (tp (tc (tc (Zd (Zp (web Zw8)) Zb)))))) (Ze rfl (cc (cc (cc (cc Zg)))) (Ze rfl (cc (cc (cc (cc Zg)))) (Ze rfl (cc Zg) Zc))))
   ·(conv => whnf)
    refine st ?_
    exact wx (WS.mk (Zd (Zp (ZV (by first | exact rfl | simp only [List.length_set]))) (tp (tp (tc (tc (Zd (Zp (web Zw8)) Zb)))))) (Ze rfl (cc (cc (cc (cc Zg)))) (Ze rfl (cc (cc (cc (cc Zg)))) (Ze rfl (cc Zg) Zc))))
  obtain ⟨r0, hw⟩ := hw
  (conv => whnf)
  refine AWP.weak r0 hw ?_
  refine nw ?_
  refine Zj hF (fun ZBy hF => ?_) (fun ZBy hF => ?_)
  ·refine nw ?_
   refine AWP.seq ?_
   refine AWP.block ?_
   obtain ⟨x82, ZDA, hF⟩ := bind_some hF
   obtain ⟨x83, ZEw, hF⟩ := bind_some hF
   obtain ⟨r84, ZFf, hF⟩ := bind_some hF
   refine nn ?_
   refine Or.inr (Exists.intro 13 (And.intro (by decide +kernel) ?_))
   refine Or.inl (Exists.intro 11 (Exists.intro [[], [], [], [], [], [], [], [], [], [], []] (Exists.intro [([58, 59, 60, 61, 62, 63, 64, 65, 66, 67, 68], [], []), ([58, 59, 60, 61, 62, 63, 64, 65, 66, 67, 68], [], []), ([58, 60, 61, 62, 63, 64, 65, 66, 67, 68], [], []), ([58, 59, 60, 61, 62, 63, 64, 65, 66, 67, 68], [], []), ([58, 62, 63, 64, 65, 66, 67, 68], [], []), ([58, 63, 64, 65, 66, 67, 68], [], []), ([58, 59, 60, 61, 62, 63, 64, 65, 66, 67, 68], [], []), ([58, 59, 60, 61, 62, 63, 65, 66, 67, 68], [], []), ([58, 59, 60, 61, 62, 63, 64, 65, 66, 67, 68], [], []), ([58, 59, 60, 61, 62, 63, 67, 68], [], []), ([58, 59, 60, 61, 62, 63, 68], [], [])] (Exists.intro [58, 59, 60, 61, 62, 63, 64, 65, 66, 67, 68] (And.intro (by decide +kernel) ?_)))))
   refine dp ?_
   refine dp ?_
   refine dp ?_
   refine dp ?_
   refine dr (Zag (Za.cells_eq x82) ZDA) ?_
   refine dp ?_
   refine dp ?_
   refine dp ?_
   refine dp ?_
   refine dr (Zag (Za.cells_eq x83) ZEw) ?_
   refine dp ?_
   refine st ?_
   refine Exists.intro [] (Exists.intro [(7000, 7000)] (Exists.intro [] ?_))
   refine st ?_
   refine cm (Zk.weak (rn []) (ZkB Zer x82 x83 _ ZFf) rfl (WS.mk (Zd (Zp (ZV (by first | exact rfl | simp only [List.length_set]))) (Zd (Zq (lc (lc (lc (lc Zn))))) (Zd (Zq (lc (lc (lc (lc Zn))))) Zb))) (Ze rfl (cc Zg) Zc))) ?_
   refine st ?_
   refine Or.inl (Exists.intro 3 (Exists.intro [[], [], []] (Exists.intro [([70, 71, 0], [], []), ([70, 71, 0], [], []), ([71, 0], [], [])] (Exists.intro [70, 71, 0] (And.intro (by decide +kernel) ?_)))))
   refine dp ?_
   refine dp ?_
   refine dp ?_
   refine st ?_
   obtain ⟨ZB4, hF⟩ := ZD hF
   refine ns ?_
   refine AWL.weak (rn []) ?_ (Zej r84.2.1 (Zfj + 1) p t r84.2.2 _ hF)
   exact (WS.mk (Zd (Zp (ZV (by first | exact rfl | simp only [List.length_set]))) (tp (tp (tc (Zd (Zp (Zc3 (ZcM ZB4))) Zb))))) (Ze rfl (cc (cc (cc (cc Zg)))) (Ze rfl (cc (cc (cc (cc Zg)))) (Ze rfl (cc Zg) Zc))))
  ·refine nw ?_
   refine AWP.seq ?_
   refine ns ?_
   obtain rfl := Zh hF
   refine ns ?_
   refine Exists.intro [(7000, 7000)] ?_
   refine st ?_
   exact wx (WS.mk (Zd (Zcg (ZbV (ZV (by first | exact rfl | simp only [List.length_set])) (ZbV (WE.refl _) Zck))) Zb) (Ze rfl (cc Zg) Zc))
theorem ZkD : ∀ (s : (List Zf)) (p : Za) (t : Za), ∀ r, ZT s p t = some r → ZT.M s p t r := Zkr.1

def ZZ (Zhj : Bool) (Zfj : Nat) (p : Za) (t : Za) (Zdt : (List Zf)) : Option ((List Zf) × Bool) :=
 if ((decide (((Zfj : Nat) : Int) < ((p.fKids.length : Nat) : Int))) && Zhj) = true then
 (p.fKids[Zfj]?) >>= fun x66 =>
 (t.fKids[Zfj]?) >>= fun x67 =>
 ZT Zdt x66 x67 >>= fun r68 =>
 Zac (Zfj + 1 ≤ 9223372036854775807) >>= fun _ =>
 ZZ r68.2.1 (Zfj + 1) p t r68.2.2
 else
 some (Zdt, Zhj)
 partial_fixpoint
def ZZ.M (Zhj : Bool) (Zfj : Nat) (p : Za) (t : Za) (Zdt : (List Zf)) (r : (List Zf) × Bool) : Prop :=
 AWL Tryz.prog 74 (Code.sub (Zs Tryz.f48) [1, 1, 1, 1, 0, 1, 0, 0]) (Code.cont Tryz.prog 74 (Zs Tryz.f48) [1, 1, 1, 1, 0, 1, 0] (Zce tab Tryz.f48.results (Zch (.tup [.c (.rs 2000 r.1.length), .c (.v (.bool r.2))]) [(2000, [(none, .ob 90 (r.1.map Zf.cells))])]))) ⟨[(0, .c none (.rs 6000 Zdt.length)), (4, .ptr 4 0), (5, .ptr 5 0), (9, .c none (.v (.bool Zhj))), (10, .c none (.v (.int .i64 ((Zfj : Nat) : Int))))], [(4, [(none, .v (.int .i64 p.fOp)), (none, .v (.string p.fName)), (none, .sl (p.fBound.fArgs.map Zi.cells)), (none, .sl (p.fKids.map Za.cells))]), (5, [(none, .v (.int .i64 t.fOp)), (none, .v (.string t.fName)), (none, .sl (t.fBound.fArgs.map Zi.cells)), (none, .sl (t.fKids.map Za.cells))]), (6000, [(none, .ob 90 (Zdt.map Zf.cells))])]⟩
theorem Zkb (Zhj : Bool) (Zfj : Nat) (p : Za) (t : Za) (Zdt : (List Zf)) : ∀ r, ZZ Zhj Zfj p t Zdt = some r → ZZ.M Zhj Zfj p t Zdt r := by
 refine ZZ.partial_correctness p t (fun Zhj Zfj Zdt r => ZZ.M Zhj Zfj p t Zdt r) ?_ Zhj Zfj Zdt
 intro lazycref18_match_l1' Zf2 Zhj Zfj Zdt r hF
 have Zj3 := fun (Zhj : Bool) (Zfj : Nat) (_p : Za) (_t : Za) (Zdt : (List Zf)) => Zf2 Zhj Zfj Zdt
 clear Zf2
 unfold ZZ.M
 refine AWL.step ?_
 refine AWP.seq ?_
 refine AWP.seq ?_
 refine AWP.cutN (fun T => ∃ r, WS r T ⟨[(0, .c none (.rs 6000 Zdt.length)), (4, .ptr 4 0), (5, .ptr 5 0), (9, .c none (.v (.bool Zhj))), (10, .c none (.v (.int .i64 ((Zfj : Nat) : Int)))), (54, .c none (.v (.bool ((decide (((Zfj : Nat) : Int) < ((p.fKids.length : Nat) : Int))) && Zhj))))], [(4, [(none, .v (.int .i64 p.fOp)), (none, .v (.string p.fName)), (none, .sl (p.fBound.fArgs.map Zi.cells)), (none, .sl (p.fKids.map Za.cells))]), (5, [(none, .v (.int .i64 t.fOp)), (none, .v (.string t.fName)), (none, .sl (t.fBound.fArgs.map Zi.cells)), (none, .sl (t.fKids.map Za.cells))]), (6000, [(none, .ob 90 (Zdt.map Zf.cells))])]⟩) ?_ (fun T hw => ?_)
 ·refine ns ?_
  intro hlen53
  (try rw [List.length_map] at hlen53)
  (try rw [List.length_map])
  refine st ?_
  refine Zl true (fun ZiZ => ?_) (fun ZiZ => ?_)
  ·(conv => whnf)
   refine st ?_
   exact wx (WS.mk (Zd (Zp (ZV (by first | exact rfl | simp only [List.length_set]))) (tp (tp (tc (tc (Zd (Zp (web ZiZ)) Zb)))))) (Ze rfl (cc (cc (cc (cc Zg)))) (Ze rfl (cc (cc (cc (cc Zg)))) (Ze rfl (cc Zg) Zc))))
  ·(conv => whnf)
   refine st ?_
   exact wx (WS.mk (Zd (Zp (ZV (by first | exact rfl | simp only [List.length_set]))) (tp (tp (tc (tc (Zd (Zp (web ZiZ)) Zb)))))) (Ze rfl (cc (cc (cc (cc Zg)))) (Ze rfl (cc (cc (cc (cc Zg)))) (Ze rfl (cc Zg) Zc))))
 obtain ⟨r0, hw⟩ := hw
 (conv => whnf)
 refine AWP.weak r0 hw ?_
 refine nw ?_
 refine Zj hF (fun ZAh hF => ?_) (fun ZAh hF => ?_)
 ·refine nw ?_
  refine AWP.seq ?_
  refine AWP.block ?_
  obtain ⟨x66, ZEd, hF⟩ := bind_some hF
  obtain ⟨x67, ZzZ, hF⟩ := bind_some hF
  obtain ⟨r68, ZxE, hF⟩ := bind_some hF
  refine nn ?_
  refine Or.inr (Exists.intro 13 (And.intro (by decide +kernel) ?_))
  refine Or.inl (Exists.intro 11 (Exists.intro [[], [], [], [], [], [], [], [], [], [], []] (Exists.intro [([58, 59, 60, 61, 62, 63, 64, 65, 66, 67, 68], [], []), ([58, 59, 60, 61, 62, 63, 64, 65, 66, 67, 68], [], []), ([58, 60, 61, 62, 63, 64, 65, 66, 67, 68], [], []), ([58, 59, 60, 61, 62, 63, 64, 65, 66, 67, 68], [], []), ([58, 62, 63, 64, 65, 66, 67, 68], [], []), ([58, 63, 64, 65, 66, 67, 68], [], []), ([58, 59, 60, 61, 62, 63, 64, 65, 66, 67, 68], [], []), ([58, 59, 60, 61, 62, 63, 65, 66, 67, 68], [], []), ([58, 59, 60, 61, 62, 63, 64, 65, 66, 67, 68], [], []), ([58, 59, 60, 61, 62, 63, 67, 68], [], []), ([58, 59, 60, 61, 62, 63, 68], [], [])] (Exists.intro [58, 59, 60, 61, 62, 63, 64, 65, 66, 67, 68] (And.intro (by decide +kernel) ?_)))))
  refine dp ?_
  refine dp ?_
  refine dp ?_
  refine dp ?_
  refine dr (Zag (Za.cells_eq x66) ZEd) ?_
  refine dp ?_
  refine dp ?_
  refine dp ?_
  refine dp ?_
  refine dr (Zag (Za.cells_eq x67) ZzZ) ?_
  refine dp ?_
  refine st ?_
  refine Exists.intro [] (Exists.intro [(6000, 7000)] (Exists.intro [] ?_))
  refine st ?_
  refine cm (Zk.weak (rn []) (ZkD Zdt x66 x67 _ ZxE) rfl (WS.mk (Zd (Zp (ZV (by first | exact rfl | simp only [List.length_set]))) (Zd (Zq (lc (lc (lc (lc Zn))))) (Zd (Zq (lc (lc (lc (lc Zn))))) Zb))) (Ze rfl (cc Zg) Zc))) ?_
  refine st ?_
  refine Or.inl (Exists.intro 3 (Exists.intro [[], [], []] (Exists.intro [([70, 71, 0], [], []), ([70, 71, 0], [], []), ([71, 0], [], [])] (Exists.intro [70, 71, 0] (And.intro (by decide +kernel) ?_)))))
  refine dp ?_
  refine dp ?_
  refine dp ?_
  refine st ?_
  obtain ⟨ZyJ, hF⟩ := ZD hF
  refine ns ?_
  refine AWL.weak (rn []) ?_ (Zj3 r68.2.1 (Zfj + 1) p t r68.2.2 _ hF)
  exact (WS.mk (Zd (Zp (ZV (by first | exact rfl | simp only [List.length_set]))) (tp (tp (tc (Zd (Zp (Zc3 (ZcM ZyJ))) Zb))))) (Ze rfl (cc (cc (cc (cc Zg)))) (Ze rfl (cc (cc (cc (cc Zg)))) (Ze rfl (cc Zg) Zc))))
 ·refine nw ?_
  refine AWP.seq ?_
  refine ns ?_
  obtain rfl := Zh hF
  refine ns ?_
  refine Exists.intro [(6000, 2000)] ?_
  refine st ?_
  exact wx (WS.mk (Zd (Zcg (ZbV (ZV (by first | exact rfl | simp only [List.length_set])) (ZbV (WE.refl _) Zck))) Zb) (Ze rfl (cc Zg) Zc))

def ZbH (p : Za) (t : Za) : Option ((List Zf) × Bool) :=
 if (p.fOp == 1) = true then
 ZbG ([] : List Zf) p.fName >>= fun r10 =>
 if (decide (r10 ≥ 0)) = true then
 none
 else
 Zac ((([] : List Zf).length + ([(Zf.mk p.fName t)]).length) * 88 ≤ 140737488355328) >>= fun _ =>
 some (([] : List Zf) ++ ([(Zf.mk p.fName t)]), true)
 else
 if ((p.fOp != t.fOp) || (!(p.fName.toList == t.fName.toList))) = true then
 some (([] : List Zf), false)
 else
 ZZ true 0 p t ([] : List Zf)
def ZbH.M (p : Za) (t : Za) (r : (List Zf) × Bool) : Prop :=
 Zk Tryz.prog 48 [.c none (.nils), .agg [.v (.int .i64 p.fOp), .v (.string p.fName), .sl (p.fBound.fArgs.map Zi.cells), .sl (p.fKids.map Za.cells)], .agg [.v (.int .i64 t.fOp), .v (.string t.fName), .sl (t.fBound.fArgs.map Zi.cells), .sl (t.fKids.map Za.cells)]] [] (fun d b => d = .tup [.c (.rs 2000 r.1.length), .c (.v (.bool r.2))] ∧ b = [(2000, [(none, .ob 90 (r.1.map Zf.cells))])])
theorem ZlY (p : Za) (t : Za) (r : (List Zf) × Bool) (hF : ZbH p t = some r) : ZbH.M p t r := by
 unfold ZbH at hF
 unfold ZbH.M
 refine en Tryz.func48 ?_
 refine AWP.seq ?_
 refine ns ?_
 refine AWP.thaw 0 6000 45 rfl ?_
 refine AWP.force ?_
 (conv => whnf)
 refine AWP.seq ?_
 refine AWP.seq ?_
 refine ns ?_
 refine nw ?_
 refine Zj hF (fun hc7 hF => ?_) (fun hc7 hF => ?_)
 ·refine AWP.seq ?_
  refine AWP.seq ?_
  obtain ⟨r10, Zqd, hF⟩ := bind_some hF
  refine ns ?_
  refine Exists.intro [] (Exists.intro [(6000, 1000)] (Exists.intro [] ?_))
  refine st ?_
  refine cm (Zk.weak (rn []) (ZhC ([] : List Zf) p.fName _ Zqd) rfl (WS.mk (Zd (Zp (ZV (by first | exact rfl | simp only [List.length_set]))) (tc Zb)) (Ze rfl (cc Zg) Zc))) ?_
  refine st ?_
  refine AWP.seq ?_
  refine ns ?_
  refine nw ?_
  refine Zj hF (fun ZbR hF => ?_) (fun ZbR hF => ?_)
  ·refine AWP.seq ?_
   cases hF
  ·refine nw ?_
   refine AWP.seq ?_
   obtain ⟨ZyU, hF⟩ := ZD hF
   refine ns ?_
   refine Exists.intro _ (And.intro (ZcZ (f := Zf.cells) (Zem (Zf.cells_eq (Zf.mk p.fName t)) (lc (lc (lc (lc (lc Zn)))))) (Zbb (f := Zf.cells))) ?_)
   refine sa (fun l => Zc0 l (fun x => Zf.cells_len x)) ZyU ?_
   refine Exists.intro (([(Zf.mk p.fName t)]).map Zf.cells) (Exists.intro ((([] : List Zf) ++ ([(Zf.mk p.fName t)])).map Zf.cells) (Exists.intro (([] : List Zf) ++ ([(Zf.mk p.fName t)])).length (And.intro (WE.refl _) (And.intro (Zp3 (by first | exact rfl | simp only [List.length_set])) (And.intro (ZpW (by first | exact rfl | simp only [List.length_set]) (by first | exact List.length_map _ | exact rfl)) ?_)))))
   refine st ?_
   obtain rfl := Zh hF
   refine ns ?_
   refine Exists.intro [(6000, 2000)] ?_
   refine st ?_
   exact wx (WS.mk (Zd (Zcg (ZbV (ZV (by first | exact rfl | simp only [List.length_set])) (ZbV (WE.refl _) Zck))) Zb) (Ze rfl (cc Zg) Zc))
 ·refine nw ?_
  refine AWP.seq ?_
  refine AWP.seq ?_
  refine AWP.cutN (fun T => ∃ r, WS r T ⟨[(0, .c none (.rs 6000 (([] : List Zf).length))), (4, .ptr 4 0), (5, .ptr 5 0), (46, .c none (.v (.bool ((p.fOp != t.fOp) || (!(p.fName.toList == t.fName.toList))))))], [(4, [(none, .v (.int .i64 p.fOp)), (none, .v (.string p.fName)), (none, .sl (p.fBound.fArgs.map Zi.cells)), (none, .sl (p.fKids.map Za.cells))]), (5, [(none, .v (.int .i64 t.fOp)), (none, .v (.string t.fName)), (none, .sl (t.fBound.fArgs.map Zi.cells)), (none, .sl (t.fKids.map Za.cells))]), (6000, [(none, .ob 90 (([] : List Zf).map Zf.cells))])]⟩) ?_ (fun T hw => ?_)
  ·refine ns ?_
   refine Zl false (fun Zcx => ?_) (fun Zcx => ?_)
   ·(conv => whnf)
    refine st ?_
    exact wx (WS.mk (Zd (Zp (ZV (by first | exact rfl | simp only [List.length_set]))) (tp (tp (Zd (Zp (web Zcx)) Zb)))) (Ze rfl (cc (cc (cc (cc Zg)))) (Ze rfl (cc (cc (cc (cc Zg)))) (Ze rfl (cc Zg) Zc))))
   ·(conv => whnf)
    refine st ?_
    exact wx (WS.mk (Zd (Zp (ZV (by first | exact rfl | simp only [List.length_set]))) (tp (tp (Zd (Zp (web Zcx)) Zb)))) (Ze rfl (cc (cc (cc (cc Zg)))) (Ze rfl (cc (cc (cc (cc Zg)))) (Ze rfl (cc Zg) Zc))))
  obtain ⟨r0, hw⟩ := hw
  (conv => whnf)
  refine AWP.weak r0 hw ?_
  refine nw ?_
  refine Zj hF (fun Zen hF => ?_) (fun Zen hF => ?_)
  ·refine AWP.seq ?_
   refine ns ?_
   refine AWP.thaw 6 6006 45 rfl ?_
   refine AWP.force ?_
   (conv => whnf)
   obtain rfl := Zh hF
   refine ns ?_
   refine Exists.intro [(6006, 2000)] ?_
   refine st ?_
   exact wx (WS.mk (Zd (Zcg (ZbV (ZV (by first | exact rfl | simp only [List.length_set])) (ZbV (WE.refl _) Zck))) Zb) (Ze rfl (cc Zg) Zc))
  ·refine nw ?_
   refine AWP.seq ?_
   refine ns ?_
   refine AWP.seq ?_
   refine AWP.seq ?_
   refine ns ?_
   refine AWP.block ?_
   refine AWP.loop ?_
   refine AWL.weak (rn []) ?_ (Zkb true 0 p t ([] : List Zf) _ hF)
   exact (WS.mk (Zd (Zp (ZV (by first | exact rfl | simp only [List.length_set]))) (tp (tp (tc (tc Zb))))) (Ze rfl (cc (cc (cc (cc Zg)))) (Ze rfl (cc (cc (cc (cc Zg)))) (Ze rfl (cc Zg) Zc))))

def Zb2 (ZdS : (List Zf)) (l : (List Zf)) (x_8 : Nat) (Zay : (List Zf)) : Option ((List Zf)) :=
 (match Zay with
 | x17 :: Zt5 =>
 Zbj x17.fType >>= fun r22 =>
 Zac ((ZdS.length + ([(Zf.mk x17.fName r22)]).length) * 88 ≤ 140737488355328) >>= fun _ =>
 Zb2 (ZdS ++ ([(Zf.mk x17.fName r22)])) l (x_8 + 1) Zt5
 | [] =>
 some ZdS)
 partial_fixpoint
def Zb2.M (ZdS : (List Zf)) (l : (List Zf)) (x_8 : Nat) (Zay : (List Zf)) (r : (List Zf)) : Prop :=
 ∀ ZcP : List Zf, l = ZcP ++ Zay → x_8 = ZcP.length → l.length ≤ maxLen → AWL Tryz.prog 23 (Code.sub (Zs Tryz.f33) [1, 1, 0, 1, 0, 0]) (Code.cont Tryz.prog 23 (Zs Tryz.f33) [1, 1, 0, 1, 0] (Zce tab Tryz.f33.results (Zch (.c (some (0, 45)) (.sl (r.map Zf.cells))) []))) ⟨[(3, .c (some (3, 45)) (.sl (ZdS.map Zf.cells))), (6, .c none (.sl (l.map Zf.cells))), (7, .c none (.v (.int .i64 ((l.length : Nat) : Int)))), (8, .c none (.v (.int .i64 ((x_8 : Nat) : Int))))], []⟩
theorem ZmP (ZdS : (List Zf)) (l : (List Zf)) (x_8 : Nat) (Zay : (List Zf)) : ∀ r, Zb2 ZdS l x_8 Zay = some r → Zb2.M ZdS l x_8 Zay r := by
 refine Zb2.partial_correctness l (fun ZdS x_8 Zay r => Zb2.M ZdS l x_8 Zay r) ?_ ZdS x_8 Zay
 intro unify_fresh__l1' ZhB ZdS x_8 Zay r hF
 have Zmi := fun (ZdS : (List Zf)) (_l : (List Zf)) (x_8 : Nat) (Zay : (List Zf)) => ZhB ZdS x_8 Zay
 clear ZhB
 unfold Zb2.M
 intro ZcP Zgx Zgk hlen1
 refine AWL.step ?_
 refine AWP.seq ?_
 refine ns ?_
 refine AWP.seq ?_
 refine nw ?_
 refine ZK Zgx Zgk (fun x17 Zt5 Zuf ZzI ZBm => ?_) (fun Zuf => ?_)
 ·subst Zuf
  refine nw ?_
  refine AWP.seq ?_
  refine AWP.block ?_
  refine AWP.seq ?_
  refine nn ?_
  refine sr (Zag (f := Zf.cells) (Zf.cells_eq x17) ZzI) ?_
  refine st ?_
  obtain ⟨r22, Zt3, hF⟩ := bind_some hF
  obtain ⟨ZAH, hF⟩ := ZD hF
  refine nn ?_
  refine Or.inl (Or.inl (Exists.intro 8 (Exists.intro [[], [], [], [], [], [], [], []] (Exists.intro [([12, 13, 14, 15, 16, 17, 18, 19], [], []), ([12, 13, 14, 15, 16, 17, 18, 19], [], []), ([12, 14, 15, 16, 17, 18, 19], [], []), ([12, 13, 14, 15, 16, 17, 18, 19], [], []), ([12, 13, 14, 16, 17, 18, 19], [], []), ([12, 13, 14, 17, 18, 19], [], []), ([12, 18, 19], [], []), ([12, 19], [], [])] (Exists.intro [12, 13, 14, 15, 16, 17, 18, 19] (And.intro (by decide +kernel) ?_))))))
  refine dp ?_
  refine dp ?_
  refine dp ?_
  refine dp ?_
  refine dp ?_
  (refine st ?_; apply Exists.intro; apply Exists.intro; apply And.intro; (focus ((conv => whnf); refine Exists.intro [] ?_; (conv => whnf); refine And.intro rfl ?_; (conv => whnf); refine Zk.mono (Zk.weak (rn []) (Zkv x17.fType _ Zt3) rfl (WS.mk (Zd (Zq (lc (lc (lc (lc Zn))))) Zb) Zc)) ?_; rintro d b ⟨rfl, rfl⟩; exact And.intro rfl (And.intro rfl rfl))); apply And.intro; (focus exact rfl); (conv => whnf))
  refine dp ?_
  refine de (ZcZ (f := Zf.cells) (Zem (Zf.cells_eq (Zf.mk x17.fName r22)) (lc (lc (lc (lc (lc Zn)))))) (Zbb (f := Zf.cells))) ?_
  refine sa (fun l => Zc0 l (fun x => Zf.cells_len x)) ZAH ?_
  refine Exists.intro _ (And.intro (WE.refl _) ?_)
  rw [← List.map_append]
  refine st ?_
  refine ns ?_
  refine AWL.weak (rn [(20, 3)]) ?_ (Zmi (ZdS ++ ([(Zf.mk x17.fName r22)])) l (x_8 + 1) Zt5 _ hF (ZcP ++ [x17]) (by rw [Zgx]; simp) (by rw [Zgk]; simp) hlen1)
  exact (WS.mk (Zd (Zc9 rfl (WE.refl _)) (tc (tc (Zd (Zp (Zc3 (ZX hlen1 ZBm))) Zb)))) Zc)
 ·subst Zuf
  refine nw ?_
  refine AWP.seq ?_
  refine ns ?_
  obtain rfl := Zh hF
  refine ns ?_
  refine Exists.intro [] ?_
  refine st ?_
  exact Exists.intro (rn [(3, 0)]) (WS.mk (Zd (Zc9 rfl (WE.refl _)) Zb) Zc)

def ZdF (l : (List Zf)) : Option ((List Zf)) :=
 Zb2 ([]) l 0 l
def ZdF.M (l : (List Zf)) (r : (List Zf)) : Prop :=
 Zk Tryz.prog 33 [.c none (.sl (l.map Zf.cells))] [] (fun d b => d = .c (some (0, 45)) (.sl (r.map Zf.cells)) ∧ b = [])
theorem ZoF (l : (List Zf)) (r : (List Zf)) (hF : ZdF l = some r) : ZdF.M l r := by
 unfold ZdF at hF
 unfold ZdF.M
 refine en Tryz.func33 ?_
 refine AWP.seq ?_
 refine ns ?_
 refine AWP.seq ?_
 refine ns ?_
 refine AWP.seq ?_
 refine AWP.seq ?_
 refine ns ?_
 intro hlen1
 (try rw [List.length_map] at hlen1)
 (try rw [List.length_map])
 refine st ?_
 refine AWP.block ?_
 refine AWP.loop ?_
 refine AWL.weak (rn []) ?_ (ZmP ([]) l 0 l _ hF ([]) rfl rfl hlen1)
 exact (WS.mk (Zd Zmh (tc (tc (tc Zb)))) Zc)

def Zdo (pattern : Za) (t : Za) : Option ((List Zf) × Int) :=
 Za8 pattern >>= fun r5 =>
 (if (!r5) = true then some true else Za8 t >>= fun r6 =>
 some (!r6)) >>= fun c7 =>
 if c7 = true then
 some (([] : List Zf), 1)
 else
 Zaa (Za6.mk ([] : List Zf) ([] : List (ByteArray × Int))) pattern t >>= fun r12 =>
 if (!r12.1) = true then
 some (([] : List Zf), 22)
 else
 ZdF r12.2.flist >>= fun r14 =>
 some (r14, 0)
def Zdo.M (pattern : Za) (t : Za) (r : (List Zf) × Int) : Prop :=
 Zk Tryz.prog 24 [.agg [.v (.int .i64 pattern.fOp), .v (.string pattern.fName), .sl (pattern.fBound.fArgs.map Zi.cells), .sl (pattern.fKids.map Za.cells)], .agg [.v (.int .i64 t.fOp), .v (.string t.fName), .sl (t.fBound.fArgs.map Zi.cells), .sl (t.fKids.map Za.cells)]] [] (fun d b => d = .tup [.c (.sl (r.1.map Zf.cells)), .c (.v (.int .i64 r.2))] ∧ b = [])
theorem Zlw (pattern : Za) (t : Za) (r : (List Zf) × Int) (hF : Zdo pattern t = some r) : Zdo.M pattern t r := by
 unfold Zdo at hF
 unfold Zdo.M
 refine en Tryz.func24 ?_
 refine AWP.seq ?_
 refine ns ?_
 refine AWP.seq ?_
 refine AWP.seq ?_
 obtain ⟨r5, hr5, hF⟩ := bind_some hF
 obtain ⟨c7, hc7, hF⟩ := bind_some hF
 refine AWP.cutN (fun T => ∃ r, WS r T ⟨[(2, .ptr 2 0), (3, .ptr 3 0), (14, .c none (.v (.bool c7)))], [(2, [(none, .v (.int .i64 pattern.fOp)), (none, .v (.string pattern.fName)), (none, .sl (pattern.fBound.fArgs.map Zi.cells)), (none, .sl (pattern.fKids.map Za.cells))]), (3, [(none, .v (.int .i64 t.fOp)), (none, .v (.string t.fName)), (none, .sl (t.fBound.fArgs.map Zi.cells)), (none, .sl (t.fKids.map Za.cells))])]⟩) ?_ (fun T hw => ?_)
 ·refine ns ?_
  refine e3 ?_
  refine st ?_
  refine cm (Zk.weak (rn []) (Zd8 pattern _ hr5) rfl (WS.mk (Zd (Zq (lc (lc (lc (lc Zn))))) Zb) Zc)) ?_
  refine st ?_
  refine Zl false (fun hc8 => ?_) (fun hc8 => ?_)
  ·have hc7 := ift hc8 hc7
   (conv => whnf)
   obtain rfl := Zh hc7
   refine st ?_
   exact wx (WS.mk (tp (tp (Zd (Zp (web hc8)) Zb))) (Ze rfl (cc (cc (cc (cc Zg)))) (Ze rfl (cc (cc (cc (cc Zg)))) Zc)))
  ·have hc7 := ife hc8 hc7
   obtain ⟨r6, hr6, hc7⟩ := bind_some hc7
   (conv => whnf)
   refine st ?_
   refine e3 ?_
   refine st ?_
   refine cm (Zk.weak (rn []) (Zd8 t _ hr6) rfl (WS.mk (Zd (Zq (lc (lc (lc (lc Zn))))) Zb) Zc)) ?_
   refine st ?_
   obtain rfl := Zh hc7
   refine st ?_
   exact wx (WS.mk (tp (tp (Zd (Zp (web hc8)) Zb))) (Ze rfl (cc (cc (cc (cc Zg)))) (Ze rfl (cc (cc (cc (cc Zg)))) Zc)))
 obtain ⟨r0, hw⟩ := hw
 (conv => whnf)
 refine AWP.weak r0 hw ?_
 refine nw ?_
 refine Zj hF (fun hc9 hF => ?_) (fun hc9 hF => ?_)
 ·refine AWP.seq ?_
  refine ns ?_
  obtain rfl := Zh hF
  refine ns ?_
  refine Exists.intro [] ?_
  refine st ?_
  exact wx (WS.mk (Zd (Zcg (ZbV WE.nil (ZbV (WE.refl _) Zck))) Zb) Zc)
 ·refine nw ?_
  refine AWP.seq ?_
  refine ns ?_
  refine AWP.seq ?_
  refine AWP.seq ?_
  obtain ⟨r12, Zsa, hF⟩ := bind_some hF
  refine ns ?_
  refine Exists.intro [] (Exists.intro [(17, 1000), (15, 1001)] (Exists.intro [] ?_))
  refine st ?_
  refine cm (Zk.weak (rn []) (ZjK (Za6.mk ([] : List Zf) ([] : List (ByteArray × Int))) pattern t _ Zsa) rfl (WS.mk (tp (Zd (Zq (lc (lc (lc (lc Zn))))) (Zd (Zq (lc (lc (lc (lc Zn))))) Zb))) (Ze rfl (Zjr (cc Zg)) (Ze rfl (cc Zg) Zc)))) ?_
  refine st ?_
  refine nw ?_
  refine Zj hF (fun Zbp hF => ?_) (fun Zbp hF => ?_)
  ·refine AWP.seq ?_
   refine ns ?_
   obtain rfl := Zh hF
   refine ns ?_
   refine Exists.intro [] ?_
   refine st ?_
   exact wx (WS.mk (Zd (Zcg (ZbV WE.nil (ZbV (WE.refl _) Zck))) Zb) Zc)
  ·refine nw ?_
   refine AWP.seq ?_
   obtain ⟨r14, Zmp, hF⟩ := bind_some hF
   refine ns ?_
   refine Exists.intro [3000] (Exists.intro [] (Exists.intro [] ?_))
   refine st ?_
   refine cm (Zk.weak (rn []) (ZoF r12.2.flist _ Zmp) rfl (WS.mk (tc Zb) Zc)) ?_
   refine st ?_
   obtain rfl := Zh hF
   refine ns ?_
   refine Exists.intro [] ?_
   refine st ?_
   exact wx (WS.mk (Zd (Zcg (ZbV (WE.refl _) (ZbV (WE.refl _) Zck))) Zb) Zc)

def ZbI (pattern : Za) (t : Za) : Option ((List Zf) × Int) :=
 Zal pattern >>= fun r5 =>
 (if (!r5) = true then some true else Zal t >>= fun r6 =>
 some (!r6)) >>= fun c7 =>
 if c7 = true then
 some (([] : List Zf), 1)
 else
 ZbH pattern t >>= fun r10 =>
 if (!r10.2) = true then
 some (([] : List Zf), 22)
 else
 some (r10.1, 0)
def ZbI.M (pattern : Za) (t : Za) (r : (List Zf) × Int) : Prop :=
 Zk Tryz.prog 25 [.agg [.v (.int .i64 pattern.fOp), .v (.string pattern.fName), .sl (pattern.fBound.fArgs.map Zi.cells), .sl (pattern.fKids.map Za.cells)], .agg [.v (.int .i64 t.fOp), .v (.string t.fName), .sl (t.fBound.fArgs.map Zi.cells), .sl (t.fKids.map Za.cells)]] [] (fun d b => d = .tup [.c (.sl (r.1.map Zf.cells)), .c (.v (.int .i64 r.2))] ∧ b = [])
theorem ZhD (pattern : Za) (t : Za) (r : (List Zf) × Int) (hF : ZbI pattern t = some r) : ZbI.M pattern t r := by
 unfold ZbI at hF
 unfold ZbI.M
 refine en Tryz.func25 ?_
 refine AWP.seq ?_
 refine ns ?_
 refine AWP.seq ?_
 refine AWP.seq ?_
 obtain ⟨r5, hr5, hF⟩ := bind_some hF
 obtain ⟨c7, hc7, hF⟩ := bind_some hF
 refine AWP.cutN (fun T => ∃ r, WS r T ⟨[(2, .ptr 2 0), (3, .ptr 3 0), (15, .c none (.v (.bool c7)))], [(2, [(none, .v (.int .i64 pattern.fOp)), (none, .v (.string pattern.fName)), (none, .sl (pattern.fBound.fArgs.map Zi.cells)), (none, .sl (pattern.fKids.map Za.cells))]), (3, [(none, .v (.int .i64 t.fOp)), (none, .v (.string t.fName)), (none, .sl (t.fBound.fArgs.map Zi.cells)), (none, .sl (t.fKids.map Za.cells))])]⟩) ?_ (fun T hw => ?_)
 ·refine ns ?_
  refine e3 ?_
  refine st ?_
  refine cm (Zk.weak (rn []) (Ze1 pattern _ hr5) rfl (WS.mk (Zd (Zq (lc (lc (lc (lc Zn))))) Zb) Zc)) ?_
  refine st ?_
  refine Zl false (fun hc8 => ?_) (fun hc8 => ?_)
  ·have hc7 := ift hc8 hc7
   (conv => whnf)
   obtain rfl := Zh hc7
   refine st ?_
   exact wx (WS.mk (tp (tp (Zd (Zp (web hc8)) Zb))) (Ze rfl (cc (cc (cc (cc Zg)))) (Ze rfl (cc (cc (cc (cc Zg)))) Zc)))
  ·have hc7 := ife hc8 hc7
   obtain ⟨r6, hr6, hc7⟩ := bind_some hc7
   (conv => whnf)
   refine st ?_
   refine e3 ?_
   refine st ?_
   refine cm (Zk.weak (rn []) (Ze1 t _ hr6) rfl (WS.mk (Zd (Zq (lc (lc (lc (lc Zn))))) Zb) Zc)) ?_
   refine st ?_
   obtain rfl := Zh hc7
   refine st ?_
   exact wx (WS.mk (tp (tp (Zd (Zp (web hc8)) Zb))) (Ze rfl (cc (cc (cc (cc Zg)))) (Ze rfl (cc (cc (cc (cc Zg)))) Zc)))
 obtain ⟨r0, hw⟩ := hw
 (conv => whnf)
 refine AWP.weak r0 hw ?_
 refine nw ?_
 refine Zj hF (fun hc9 hF => ?_) (fun hc9 hF => ?_)
 ·refine AWP.seq ?_
  refine ns ?_
  obtain rfl := Zh hF
  refine ns ?_
  refine Exists.intro [] ?_
  refine st ?_
  exact wx (WS.mk (Zd (Zcg (ZbV WE.nil (ZbV (WE.refl _) Zck))) Zb) Zc)
 ·refine nw ?_
  refine AWP.seq ?_
  obtain ⟨r10, Zqd, hF⟩ := bind_some hF
  refine ns ?_
  refine Exists.intro [] (Exists.intro [] (Exists.intro [(2000, 19)] ?_))
  refine st ?_
  refine cm (Zk.weak (rn []) (ZlY pattern t _ Zqd) rfl (WS.mk (tc (Zd (Zq (lc (lc (lc (lc Zn))))) (Zd (Zq (lc (lc (lc (lc Zn))))) Zb))) Zc)) ?_
  refine st ?_
  refine AWP.freeze 6 19 45 rfl rfl (by simp only [List.length_map]) ?_
  refine AWP.force ?_
  (conv => whnf)
  refine AWP.seq ?_
  refine AWP.seq ?_
  refine ns ?_
  refine nw ?_
  refine Zj hF (fun ZbR hF => ?_) (fun ZbR hF => ?_)
  ·refine AWP.seq ?_
   refine ns ?_
   obtain rfl := Zh hF
   refine ns ?_
   refine Exists.intro [] ?_
   refine st ?_
   exact wx (WS.mk (Zd (Zcg (ZbV WE.nil (ZbV (WE.refl _) Zck))) Zb) Zc)
  ·refine nw ?_
   refine AWP.seq ?_
   refine ns ?_
   obtain rfl := Zh hF
   refine ns ?_
   refine Exists.intro [] ?_
   refine st ?_
   exact wx (WS.mk (Zd (Zcg (ZbV (WE.refl _) (ZbV (WE.refl _) Zck))) Zb) Zc)

mutual
def Zbs (to : (List (ByteArray × ByteArray))) (from_ : (List (ByteArray × ByteArray))) (a : Za) (b : Za) : Option (Bool × (List (ByteArray × ByteArray)) × (List (ByteArray × ByteArray))) :=
 if ((a.fOp == 1) && (b.fOp == 1)) = true then
 Zdf to (ByteArray.mk #[]) a.fName >>= fun r8 =>
 Zdf from_ (ByteArray.mk #[]) b.fName >>= fun r9 =>
 if ((!r8.2) && (!r9.2)) = true then
 some (true, Zfm to a.fName b.fName, Zfm from_ b.fName a.fName)
 else
 some (((r8.2 && r9.2) && (r8.1.toList == b.fName.toList)) && (r9.1.toList == a.fName.toList), to, from_)
 else
 if (((a.fOp != b.fOp) || (!(a.fName.toList == b.fName.toList))) || (((a.fKids.length : Nat) : Int) != ((b.fKids.length : Nat) : Int))) = true then
 some (false, to, from_)
 else
 Zav a 0 b to from_ a.fKids
 partial_fixpoint
def Zav (a : Za) (ZqE : Nat) (b : Za) (ZcY : (List (ByteArray × ByteArray))) (ZcW : (List (ByteArray × ByteArray))) (Zj4 : (List Za)) : Option (Bool × (List (ByteArray × ByteArray)) × (List (ByteArray × ByteArray))) :=
 (match Zj4 with
 | x44 :: ZAq =>
 (b.fKids[ZqE]?) >>= fun x49 =>
 Zbs ZcY ZcW x44 x49 >>= fun r50 =>
 if (!r50.1) = true then
 some (false, r50.2.1, r50.2.2)
 else
 Zav a (ZqE + 1) b r50.2.1 r50.2.2 ZAq
 | [] =>
 some (true, ZcY, ZcW))
 partial_fixpoint
end
def Zbs.M (to : (List (ByteArray × ByteArray))) (from_ : (List (ByteArray × ByteArray))) (a : Za) (b : Za) (r : Bool × (List (ByteArray × ByteArray)) × (List (ByteArray × ByteArray))) : Prop :=
 Zk Tryz.prog 49 [.c none (.rf 1000), .c none (.rf 1001), .agg [.v (.int .i64 a.fOp), .v (.string a.fName), .sl (a.fBound.fArgs.map Zi.cells), .sl (a.fKids.map Za.cells)], .agg [.v (.int .i64 b.fOp), .v (.string b.fName), .sl (b.fBound.fArgs.map Zi.cells), .sl (b.fKids.map Za.cells)]] [(1000, [(none, .ob 149 (to.map (Zcj c_S c_S)))]), (1001, [(none, .ob 149 (from_.map (Zcj c_S c_S)))])] (fun d b => d = .c none (.v (.bool r.1)) ∧ b = [(1000, [(none, .ob 149 (r.2.1.map (Zcj c_S c_S)))]), (1001, [(none, .ob 149 (r.2.2.map (Zcj c_S c_S)))])])
def Zav.M (a : Za) (ZqE : Nat) (b : Za) (ZcY : (List (ByteArray × ByteArray))) (ZcW : (List (ByteArray × ByteArray))) (Zj4 : (List Za)) (r : Bool × (List (ByteArray × ByteArray)) × (List (ByteArray × ByteArray))) : Prop :=
 ∀ ZmS : List Za, a.fKids = ZmS ++ Zj4 → ZqE = ZmS.length → a.fKids.length ≤ maxLen → AWL Tryz.prog 110 (Code.sub (Zs Tryz.f49) [1, 1, 1, 0, 1, 0, 0]) (Code.cont Tryz.prog 110 (Zs Tryz.f49) [1, 1, 1, 0, 1, 0] (Zce tab Tryz.f49.results (Zch (.c none (.v (.bool r.1))) [(1000, [(none, .ob 149 (r.2.1.map (Zcj c_S c_S)))]), (1001, [(none, .ob 149 (r.2.2.map (Zcj c_S c_S)))])]))) ⟨[(0, .c none (.rf 1000)), (1, .c none (.rf 1001)), (6, .ptr 6 0), (7, .ptr 7 0), (91, .c none (.v (.int .i64 ((a.fKids.length : Nat) : Int)))), (92, .c none (.v (.int .i64 ((ZqE : Nat) : Int))))], [(6, [(none, .v (.int .i64 a.fOp)), (none, .v (.string a.fName)), (none, .sl (a.fBound.fArgs.map Zi.cells)), (none, .sl (a.fKids.map Za.cells))]), (7, [(none, .v (.int .i64 b.fOp)), (none, .v (.string b.fName)), (none, .sl (b.fBound.fArgs.map Zi.cells)), (none, .sl (b.fKids.map Za.cells))]), (1000, [(none, .ob 149 (ZcY.map (Zcj c_S c_S)))]), (1001, [(none, .ob 149 (ZcW.map (Zcj c_S c_S)))])]⟩
theorem Znh : (∀ (to : (List (ByteArray × ByteArray))) (from_ : (List (ByteArray × ByteArray))) (a : Za) (b : Za), ∀ r, Zbs to from_ a b = some r → Zbs.M to from_ a b r) ∧ (∀ (a : Za) (ZqE : Nat) (b : Za) (ZcY : (List (ByteArray × ByteArray))) (ZcW : (List (ByteArray × ByteArray))) (Zj4 : (List Za)), ∀ r, Zav a ZqE b ZcY ZcW Zj4 = some r → Zav.M a ZqE b ZcY ZcW Zj4 r) := by
 refine Zbs.mutual_partial_correctness Zbs.M Zav.M ?_ ?_
 ·intro unify_renames_l1' Zfu to from_ a b r hF
  unfold Zbs.M
  refine en Tryz.func49 ?_
  refine AWP.seq ?_
  refine ns ?_
  refine AWP.seq ?_
  refine AWP.seq ?_
  refine AWP.cutN (fun T => ∃ r, WS r T ⟨[(0, .c none (.rf 1000)), (1, .c none (.rf 1001)), (6, .ptr 6 0), (7, .ptr 7 0), (21, .c none (.v (.bool ((a.fOp == 1) && (b.fOp == 1)))))], [(6, [(none, .v (.int .i64 a.fOp)), (none, .v (.string a.fName)), (none, .sl (a.fBound.fArgs.map Zi.cells)), (none, .sl (a.fKids.map Za.cells))]), (7, [(none, .v (.int .i64 b.fOp)), (none, .v (.string b.fName)), (none, .sl (b.fBound.fArgs.map Zi.cells)), (none, .sl (b.fKids.map Za.cells))]), (1000, [(none, .ob 149 (to.map (Zcj c_S c_S)))]), (1001, [(none, .ob 149 (from_.map (Zcj c_S c_S)))])]⟩) ?_ (fun T hw => ?_)
  ·refine ns ?_
   refine Zl true (fun hc6 => ?_) (fun hc6 => ?_)
   ·(conv => whnf)
    refine st ?_
    exact wx (WS.mk (tc (tc (tp (tp (Zd (Zp (web hc6)) Zb))))) (Ze rfl (cc (cc (cc (cc Zg)))) (Ze rfl (cc (cc (cc (cc Zg)))) (Ze rfl (cc Zg) (Ze rfl (cc Zg) Zc)))))
   ·(conv => whnf)
    refine st ?_
    exact wx (WS.mk (tc (tc (tp (tp (Zd (Zp (web hc6)) Zb))))) (Ze rfl (cc (cc (cc (cc Zg)))) (Ze rfl (cc (cc (cc (cc Zg)))) (Ze rfl (cc Zg) (Ze rfl (cc Zg) Zc)))))
  obtain ⟨r0, hw⟩ := hw
  (conv => whnf)
  refine AWP.weak r0 hw ?_
  refine nw ?_
  refine Zj hF (fun hc7 hF => ?_) (fun hc7 hF => ?_)
  ·refine AWP.seq ?_
   obtain ⟨r8, hr8, hF⟩ := bind_some hF
   refine ns ?_
   refine ZeP (m := to) (k := a.fName) Zeh (ev := c_S) hr8 rfl (fun x => ZhT x) rfl rfl (lc Zn) ?_
   refine st ?_
   refine AWP.seq ?_
   obtain ⟨r9, hr9, hF⟩ := bind_some hF
   refine ns ?_
   refine ZeP (m := from_) (k := b.fName) Zeh (ev := c_S) hr9 rfl (fun x => ZhT x) rfl rfl (lc Zn) ?_
   refine st ?_
   refine AWP.seq ?_
   refine AWP.seq ?_
   refine AWP.cutN (fun T => ∃ r, WS r T ⟨[(0, .c none (.rf 1000)), (1, .c none (.rf 1001)), (6, .ptr 6 0), (7, .ptr 7 0), (9, .c none (.v (.string r8.1))), (10, .c none (.v (.bool r8.2))), (11, .c none (.v (.string r9.1))), (12, .c none (.v (.bool r9.2))), (41, .c none (.v (.bool ((!r8.2) && (!r9.2)))))], [(6, [(none, .v (.int .i64 a.fOp)), (none, .v (.string a.fName)), (none, .sl (a.fBound.fArgs.map Zi.cells)), (none, .sl (a.fKids.map Za.cells))]), (7, [(none, .v (.int .i64 b.fOp)), (none, .v (.string b.fName)), (none, .sl (b.fBound.fArgs.map Zi.cells)), (none, .sl (b.fKids.map Za.cells))]), (1000, [(none, .ob 149 (to.map (Zcj c_S c_S)))]), (1001, [(none, .ob 149 (from_.map (Zcj c_S c_S)))])]⟩) ?_ (fun T hw => ?_)
   ·refine ns ?_
    refine Zl true (fun ZbR => ?_) (fun ZbR => ?_)
    ·(conv => whnf)
     refine st ?_
     exact wx (WS.mk (tc (tc (tp (tp (tc (tc (tc (tc (Zd (Zp (web ZbR)) Zb))))))))) (Ze rfl (cc (cc (cc (cc Zg)))) (Ze rfl (cc (cc (cc (cc Zg)))) (Ze rfl (cc Zg) (Ze rfl (cc Zg) Zc)))))
    ·(conv => whnf)
     refine st ?_
     exact wx (WS.mk (tc (tc (tp (tp (tc (tc (tc (tc (Zd (Zp (web ZbR)) Zb))))))))) (Ze rfl (cc (cc (cc (cc Zg)))) (Ze rfl (cc (cc (cc (cc Zg)))) (Ze rfl (cc Zg) (Ze rfl (cc Zg) Zc)))))
   obtain ⟨r0, hw⟩ := hw
   (conv => whnf)
   refine AWP.weak r0 hw ?_
   refine nw ?_
   refine Zj hF (fun ZdO hF => ?_) (fun ZdO hF => ?_)
   ·refine AWP.seq ?_
    refine nn ?_
    refine Or.inl (Or.inl (Exists.intro 11 (Exists.intro [[], [], [], [], [], [], [], [], [], [], [1000]] (Exists.intro [([42, 43, 44, 45, 46, 47, 48, 49, 50, 51], [], []), ([42, 43, 44, 45, 46, 47, 48, 49, 50, 51], [], []), ([42, 44, 45, 46, 47, 48, 49, 50, 51], [], []), ([42, 43, 44, 45, 46, 47, 48, 49, 50, 51], [1000], []), ([42, 43, 44, 45, 46, 47, 48, 49, 50, 51], [1000], []), ([42, 43, 44, 45, 47, 48, 49, 50, 51], [1000], []), ([42, 43, 44, 45, 46, 47, 48, 49, 50, 51], [], []), ([42, 43, 44, 45, 46, 47, 49, 50, 51], [], []), ([42, 43, 44, 45, 46, 47, 48, 49, 50, 51], [1000], []), ([42, 43, 44, 45, 46, 47, 48, 49, 51], [1000], []), ([45, 46, 47, 50, 51], [], [1000])] (Exists.intro [42, 43, 44, 45, 46, 47, 48, 49, 50, 51] (And.intro (by decide +kernel) ?_))))))
    refine dp ?_
    refine dp ?_
    refine dp ?_
    refine dp ?_
    refine dp ?_
    refine dp ?_
    refine dp ?_
    refine dp ?_
    refine dp ?_
    refine dp ?_
    (refine st ?_; apply Exists.intro; apply Exists.intro; apply And.intro; (focus (((repeat (first | ((conv => whnf); (with_reducible refine And.intro ?_ ?_); (focus (first | exact Eq.refl _ | exact trivial | (with_reducible assumption) | (with_reducible exact Int.natCast_nonneg _) | exact Nat.le_of_ble_eq_true (Eq.refl true) | exact ZcV (Eq.refl _) (Eq.refl _) (Eq.refl _) | decide))))); (conv => whnf)) <;> (refine ZiK (m := to) (k := a.fName) (v := b.fName) Zeh (ev := c_S) (lc Zn) ?_) <;> ((repeat (first | ((conv => whnf); (with_reducible refine And.intro ?_ ?_); (focus (first | exact Eq.refl _ | exact trivial | (with_reducible assumption) | (with_reducible exact Int.natCast_nonneg _) | exact Nat.le_of_ble_eq_true (Eq.refl true) | exact ZcV (Eq.refl _) (Eq.refl _) (Eq.refl _) | decide))))); (conv => whnf)) <;> (exact rfl))); apply And.intro; (focus exact rfl); (conv => whnf))
    refine st ?_
    refine ZiK (m := from_) (k := b.fName) (v := a.fName) Zeh (ev := c_S) (lc Zn) ?_
    refine st ?_
    refine AWP.seq ?_
    refine ns ?_
    obtain rfl := Zh hF
    refine ns ?_
    refine Exists.intro [(1000, 1000), (1001, 1001)] ?_
    refine st ?_
    exact wx (WS.mk (tc Zb) (Ze rfl (cc Zg) (Ze rfl (cc Zg) Zc)))
   ·refine nw ?_
    refine AWP.seq ?_
    refine AWP.cutN (fun T => ∃ r, WS r T ⟨[(8, .c none (.v (.bool (((r8.2 && r9.2) && (r8.1.toList == b.fName.toList)) && (r9.1.toList == a.fName.toList)))))], [(1000, [(none, .ob 149 (to.map (Zcj c_S c_S)))]), (1001, [(none, .ob 149 (from_.map (Zcj c_S c_S)))])]⟩) ?_ (fun T hw => ?_)
    ·refine ns ?_
     refine Zl true (fun Zbp => ?_) (fun Zbp => ?_)
     ·(conv => whnf)
      refine st ?_
      refine Zl true (fun Zcx => ?_) (fun Zcx => ?_)
      ·(conv => whnf)
       refine st ?_
       refine Zl true (fun Zen => ?_) (fun Zen => ?_)
       ·(conv => whnf)
        refine st ?_
        exact wx (WS.mk (Zd (Zp (web (And.intro Zbp (And.intro Zcx Zen)))) Zb) (Ze rfl (cc Zg) (Ze rfl (cc Zg) Zc)))
       ·(conv => whnf)
        refine st ?_
        exact wx (WS.mk (Zd (Zp (web (And.intro Zbp (And.intro Zcx Zen)))) Zb) (Ze rfl (cc Zg) (Ze rfl (cc Zg) Zc)))
      ·(conv => whnf)
       refine st ?_
       exact wx (WS.mk (Zd (Zp (web (And.intro Zbp Zcx))) Zb) (Ze rfl (cc Zg) (Ze rfl (cc Zg) Zc)))
     ·(conv => whnf)
      refine st ?_
      exact wx (WS.mk (Zd (Zp (web Zbp)) Zb) (Ze rfl (cc Zg) (Ze rfl (cc Zg) Zc)))
    obtain ⟨r0, hw⟩ := hw
    (conv => whnf)
    refine AWP.weak r0 hw ?_
    obtain rfl := Zh hF
    refine ns ?_
    refine Exists.intro [(1000, 1000), (1001, 1001)] ?_
    refine st ?_
    exact wx (WS.mk (tc Zb) (Ze rfl (cc Zg) (Ze rfl (cc Zg) Zc)))
  ·refine nw ?_
   refine AWP.seq ?_
   refine AWP.seq ?_
   refine AWP.cutN (fun T => ∃ r, WS r T ⟨[(0, .c none (.rf 1000)), (1, .c none (.rf 1001)), (6, .ptr 6 0), (7, .ptr 7 0), (88, .c none (.v (.bool (((a.fOp != b.fOp) || (!(a.fName.toList == b.fName.toList))) || (((a.fKids.length : Nat) : Int) != ((b.fKids.length : Nat) : Int))))))], [(6, [(none, .v (.int .i64 a.fOp)), (none, .v (.string a.fName)), (none, .sl (a.fBound.fArgs.map Zi.cells)), (none, .sl (a.fKids.map Za.cells))]), (7, [(none, .v (.int .i64 b.fOp)), (none, .v (.string b.fName)), (none, .sl (b.fBound.fArgs.map Zi.cells)), (none, .sl (b.fKids.map Za.cells))]), (1000, [(none, .ob 149 (to.map (Zcj c_S c_S)))]), (1001, [(none, .ob 149 (from_.map (Zcj c_S c_S)))])]⟩) ?_ (fun T hw => ?_)
   ·refine ns ?_
    refine Zl false (fun ZfX => ?_) (fun ZfX => ?_)
    ·(conv => whnf)
     refine st ?_
     exact wx (WS.mk (tc (tc (tp (tp (Zd (Zp (web ZfX)) Zb))))) (Ze rfl (cc (cc (cc (cc Zg)))) (Ze rfl (cc (cc (cc (cc Zg)))) (Ze rfl (cc Zg) (Ze rfl (cc Zg) Zc)))))
    ·(conv => whnf)
     refine st ?_
     refine Zl false (fun ZgV => ?_) (fun ZgV => ?_)
     ·(conv => whnf)
      refine st ?_
      exact wx (WS.mk (tc (tc (tp (tp (Zd (Zp (web (And.intro ZfX ZgV))) Zb))))) (Ze rfl (cc (cc (cc (cc Zg)))) (Ze rfl (cc (cc (cc (cc Zg)))) (Ze rfl (cc Zg) (Ze rfl (cc Zg) Zc)))))
     ·(conv => whnf)
      refine st ?_
      intro hlen19
      (try rw [List.length_map] at hlen19)
      (try rw [List.length_map])
      refine st ?_
      intro hlen20
      (try rw [List.length_map] at hlen20)
      (try rw [List.length_map])
      refine st ?_
      exact wx (WS.mk (tc (tc (tp (tp (Zd (Zp (web (And.intro ZfX ZgV))) Zb))))) (Ze rfl (cc (cc (cc (cc Zg)))) (Ze rfl (cc (cc (cc (cc Zg)))) (Ze rfl (cc Zg) (Ze rfl (cc Zg) Zc)))))
   obtain ⟨r0, hw⟩ := hw
   (conv => whnf)
   refine AWP.weak r0 hw ?_
   refine nw ?_
   refine Zj hF (fun Zlj hF => ?_) (fun Zlj hF => ?_)
   ·refine AWP.seq ?_
    refine ns ?_
    obtain rfl := Zh hF
    refine ns ?_
    refine Exists.intro [(1000, 1000), (1001, 1001)] ?_
    refine st ?_
    exact wx (WS.mk (tc Zb) (Ze rfl (cc Zg) (Ze rfl (cc Zg) Zc)))
   ·refine nw ?_
    refine AWP.seq ?_
    refine AWP.seq ?_
    refine ns ?_
    intro hlen24
    (try rw [List.length_map] at hlen24)
    (try rw [List.length_map])
    refine st ?_
    refine AWP.block ?_
    refine AWP.loop ?_
    refine AWL.weak (rn []) ?_ (Zfu a 0 b to from_ a.fKids _ hF ([]) rfl rfl hlen24)
    exact (WS.mk (tc (tc (tp (tp (tc (tc Zb)))))) (Ze rfl (cc (cc (cc (cc Zg)))) (Ze rfl (cc (cc (cc (cc Zg)))) (Ze rfl (cc Zg) (Ze rfl (cc Zg) Zc)))))
 ·intro unify_renames' unify_renames_l1' ZnN Zfu a ZqE b ZcY ZcW Zj4 r hF
  unfold Zav.M
  intro ZmS Zvg Zvs hlen24
  refine AWL.step ?_
  refine AWP.seq ?_
  refine ns ?_
  refine AWP.seq ?_
  refine nw ?_
  refine ZK Zvg Zvs (fun x44 ZAq ZBn ZDI ZE4 => ?_) (fun ZBn => ?_)
  ·subst ZBn
   refine nw ?_
   refine AWP.seq ?_
   refine AWP.block ?_
   refine AWP.seq ?_
   refine ns ?_
   refine AWP.seq ?_
   obtain ⟨x49, ZD9, hF⟩ := bind_some hF
   obtain ⟨r50, ZBc, hF⟩ := bind_some hF
   refine nn ?_
   refine Or.inl (Or.inl (Exists.intro 12 (Exists.intro [[], [], [], [], [], [], [], [], [], [], [], []] (Exists.intro [([95, 96, 97, 98, 99, 100, 101, 102, 103, 104, 105, 106], [], []), ([95, 96, 97, 98, 99, 100, 101, 102, 103, 104, 105, 106], [], []), ([95, 96, 97, 98, 99, 100, 101, 102, 103, 104, 105, 106], [], []), ([95, 96, 98, 99, 100, 101, 102, 103, 104, 105, 106], [], []), ([95, 96, 97, 98, 99, 100, 101, 102, 103, 104, 105, 106], [], []), ([95, 96, 100, 101, 102, 103, 104, 105, 106], [], []), ([95, 96, 101, 102, 103, 104, 105, 106], [], []), ([95, 96, 97, 98, 99, 100, 101, 102, 103, 104, 105, 106], [], []), ([95, 96, 97, 98, 99, 100, 101, 103, 104, 105, 106], [], []), ([95, 96, 97, 98, 99, 100, 101, 102, 103, 104, 105, 106], [], []), ([95, 96, 97, 98, 99, 100, 101, 105, 106], [], []), ([95, 96, 97, 98, 99, 100, 101, 106], [], [])] (Exists.intro [95, 96, 97, 98, 99, 100, 101, 102, 103, 104, 105, 106] (And.intro (by decide +kernel) ?_))))))
   refine dp ?_
   refine dp ?_
   refine dp ?_
   refine dp ?_
   refine dp ?_
   refine dr (Zag (Za.cells_eq x44) ZDI) ?_
   refine dp ?_
   refine dp ?_
   refine dp ?_
   refine dp ?_
   refine dr (Zag (Za.cells_eq x49) ZD9) ?_
   refine dp ?_
   refine st ?_
   refine Exists.intro [] (Exists.intro [(1000, 1000), (1001, 1001)] (Exists.intro [] ?_))
   refine st ?_
   refine cm (Zk.weak (rn []) (ZnN ZcY ZcW x44 x49 _ ZBc) rfl (WS.mk (tc (tc (Zd (Zq (lc (lc (lc (lc Zn))))) (Zd (Zq (lc (lc (lc (lc Zn))))) Zb)))) (Ze rfl (cc Zg) (Ze rfl (cc Zg) Zc)))) ?_
   refine st ?_
   refine nw ?_
   refine Zj hF (fun Zoz hF => ?_) (fun Zoz hF => ?_)
   ·refine AWP.seq ?_
    refine ns ?_
    obtain rfl := Zh hF
    refine ns ?_
    refine Exists.intro [(1000, 1000), (1001, 1001)] ?_
    refine st ?_
    exact wx (WS.mk (tc Zb) (Ze rfl (cc Zg) (Ze rfl (cc Zg) Zc)))
   ·refine nw ?_
    refine ns ?_
    refine AWL.weak (rn []) ?_ (Zfu a (ZqE + 1) b r50.2.1 r50.2.2 ZAq _ hF (ZmS ++ [x44]) (by rw [Zvg]; simp) (by rw [Zvs]; simp) hlen24)
    exact (WS.mk (tc (tc (tp (tp (tc (Zd (Zp (Zc3 (ZX hlen24 ZE4))) Zb)))))) (Ze rfl (cc (cc (cc (cc Zg)))) (Ze rfl (cc (cc (cc (cc Zg)))) (Ze rfl (cc Zg) (Ze rfl (cc Zg) Zc)))))
  ·subst ZBn
   refine nw ?_
   refine AWP.seq ?_
   refine ns ?_
   obtain rfl := Zh hF
   refine ns ?_
   refine Exists.intro [(1000, 1000), (1001, 1001)] ?_
   refine st ?_
   exact wx (WS.mk (tc Zb) (Ze rfl (cc Zg) (Ze rfl (cc Zg) Zc)))
theorem ZnF : ∀ (to : (List (ByteArray × ByteArray))) (from_ : (List (ByteArray × ByteArray))) (a : Za) (b : Za), ∀ r, Zbs to from_ a b = some r → Zbs.M to from_ a b r := Znh.1

def Zbf (a : Za) (b : Za) : Option (Bool) :=
 Za8 a >>= fun r1 =>
 (if r1 = true then Za8 b >>= fun r2 =>
 some r2 else some false) >>= fun c3 =>
 (if c3 = true then Zbs ([] : List (ByteArray × ByteArray)) ([] : List (ByteArray × ByteArray)) a b >>= fun r4 =>
 some r4.1 else some false) >>= fun c5 =>
 some c5
def Zbf.M (a : Za) (b : Za) (r : Bool) : Prop :=
 Zk Tryz.prog 26 [.agg [.v (.int .i64 a.fOp), .v (.string a.fName), .sl (a.fBound.fArgs.map Zi.cells), .sl (a.fKids.map Za.cells)], .agg [.v (.int .i64 b.fOp), .v (.string b.fName), .sl (b.fBound.fArgs.map Zi.cells), .sl (b.fKids.map Za.cells)]] [] (fun d b => d = .c none (.v (.bool r)) ∧ b = [])
theorem ZgX (a : Za) (b : Za) (r : Bool) (hF : Zbf a b = some r) : Zbf.M a b r := by
 unfold Zbf at hF
 unfold Zbf.M
 refine en Tryz.func26 ?_
 refine AWP.seq ?_
 refine ns ?_
 refine AWP.seq ?_
 obtain ⟨r1, hr1, hF⟩ := bind_some hF
 obtain ⟨c3, hc3, hF⟩ := bind_some hF
 obtain ⟨c5, hc5, hF⟩ := bind_some hF
 refine AWP.cutN (fun T => ∃ r, WS r T ⟨[(4, .c none (.v (.bool c5)))], []⟩) ?_ (fun T hw => ?_)
 ·refine ns ?_
  refine e3 ?_
  refine st ?_
  refine cm (Zk.weak (rn []) (Zd8 a _ hr1) rfl (WS.mk (Zd (Zq (lc (lc (lc (lc Zn))))) Zb) Zc)) ?_
  refine st ?_
  refine Zl true (fun hc6 => ?_) (fun hc6 => ?_)
  ·have hc3 := ift hc6 hc3
   obtain ⟨r2, hr2, hc3⟩ := bind_some hc3
   (conv => whnf)
   refine st ?_
   refine e3 ?_
   refine st ?_
   refine cm (Zk.weak (rn []) (Zd8 b _ hr2) rfl (WS.mk (Zd (Zq (lc (lc (lc (lc Zn))))) Zb) Zc)) ?_
   refine st ?_
   obtain rfl := Zh hc3
   refine st ?_
   refine Zl true (fun hc7 => ?_) (fun hc7 => ?_)
   ·have hc5 := ift (And.intro hc6 hc7) hc5
    obtain ⟨r4, hr4, hc5⟩ := bind_some hc5
    (conv => whnf)
    refine st ?_
    refine Exists.intro [] (Exists.intro [(12, 1000), (13, 1001)] (Exists.intro [] ?_))
    refine st ?_
    refine cm (Zk.weak (rn []) (ZnF ([] : List (ByteArray × ByteArray)) ([] : List (ByteArray × ByteArray)) a b _ hr4) rfl (WS.mk (tc (tc (Zd (Zq (lc (lc (lc (lc Zn))))) (Zd (Zq (lc (lc (lc (lc Zn))))) Zb)))) (Ze rfl (cc Zg) (Ze rfl (cc Zg) Zc)))) ?_
    refine st ?_
    obtain rfl := Zh hc5
    refine st ?_
    exact wx (WS.mk (Zd (Zp (web (And.intro hc6 hc7))) Zb) Zc)
   ·have hc5 := ife (And.intro hc6 hc7) hc5
    (conv => whnf)
    obtain rfl := Zh hc5
    refine st ?_
    exact wx (WS.mk (Zd (Zp (web (And.intro hc6 hc7))) Zb) Zc)
  ·have hc3 := ife hc6 hc3
   (conv => whnf)
   obtain rfl := Zh hc3
   have hc5 := ife hc6 hc5
   obtain rfl := Zh hc5
   refine st ?_
   exact wx (WS.mk (Zd (Zp (web hc6)) Zb) Zc)
 obtain ⟨r0, hw⟩ := hw
 (conv => whnf)
 refine AWP.weak r0 hw ?_
 obtain rfl := Zh hF
 refine ns ?_
 refine Exists.intro [] ?_
 refine st ?_
 exact wx (WS.mk (tc Zb) Zc)

def Zaj (r1 : ((List Zf) × Int)) (r2 : ((List Zf) × Int)) (i_9 : Nat) (Zht : (List Zf)) : Option (Bool) :=
 (match Zht with
 | x36 :: ZBE =>
 if (x36.fType.fOp != 1) = true then
 some false
 else
 Zaj r1 r2 (i_9 + 1) ZBE
 | [] =>
 some ((r1.2 == 0) && (r2.2 == 0)))
 partial_fixpoint
def Zaj.M (r1 : ((List Zf) × Int)) (r2 : ((List Zf) × Int)) (i_9 : Nat) (Zht : (List Zf)) (r : Bool) : Prop :=
 ∀ Zo6 : List Zf, r1.1 = Zo6 ++ Zht → i_9 = Zo6.length → AWL Tryz.prog 41 (Code.sub (Zs Tryz.f27) [1, 1, 1, 0, 1, 0, 0]) (Code.cont Tryz.prog 41 (Zs Tryz.f27) [1, 1, 1, 0, 1, 0] (Zce tab Tryz.f27.results (Zch (.c none (.v (.bool r))) []))) ⟨[(5, .c none (.sl (r1.1.map Zf.cells))), (6, .c none (.v (.int .i64 r1.2))), (8, .c none (.v (.int .i64 r2.2))), (9, .c none (.v (.int .i64 ((i_9 : Nat) : Int))))], []⟩
theorem Zi6 (r1 : ((List Zf) × Int)) (r2 : ((List Zf) × Int)) (i_9 : Nat) (Zht : (List Zf)) : ∀ r, Zaj r1 r2 i_9 Zht = some r → Zaj.M r1 r2 i_9 Zht r := by
 refine Zaj.partial_correctness r1 r2 (fun i_9 Zht r => Zaj.M r1 r2 i_9 Zht r) ?_ i_9 Zht
 intro lazycref18_Variant_l1' Zfr i_9 Zht r hF
 have Zi8 := fun (_r1 : ((List Zf) × Int)) (_r2 : ((List Zf) × Int)) (i_9 : Nat) (Zht : (List Zf)) => Zfr i_9 Zht
 clear Zfr
 unfold Zaj.M
 intro Zo6 Zxp ZwY
 refine AWL.step ?_
 refine AWP.seq ?_
 refine AWP.seq ?_
 refine ns ?_
 intro hlen35
 (try rw [List.length_map] at hlen35)
 (try rw [List.length_map])
 refine st ?_
 refine nw ?_
 refine ZK Zxp ZwY (fun x36 ZBE ZBU ZEl ZFl => ?_) (fun ZBU => ?_)
 ·subst ZBU
  refine nw ?_
  refine AWP.seq ?_
  refine AWP.block ?_
  refine AWP.seq ?_
  refine nn ?_
  refine sr (Zag (f := Zf.cells) (Zf.cells_eq x36) ZEl) ?_
  refine st ?_
  refine nw ?_
  refine Zj hF (fun ZhP hF => ?_) (fun ZhP hF => ?_)
  ·refine AWP.seq ?_
   refine ns ?_
   obtain rfl := Zh hF
   refine ns ?_
   refine Exists.intro [] ?_
   refine st ?_
   exact wx (WS.mk (tc Zb) Zc)
  ·refine nw ?_
   refine ns ?_
   refine AWL.weak (rn []) ?_ (Zi8 r1 r2 (i_9 + 1) ZBE _ hF (Zo6 ++ [x36]) (by rw [Zxp]; simp) (by rw [ZwY]; simp))
   exact (WS.mk (tc (tc (tc (Zd (Zp (Zc3 (ZX hlen35 ZFl))) Zb)))) Zc)
 ·subst ZBU
  refine nw ?_
  refine AWP.seq ?_
  refine AWP.cutN (fun T => ∃ r, WS r T ⟨[(4, .c none (.v (.bool ((r1.2 == 0) && (r2.2 == 0)))))], []⟩) ?_ (fun T hw => ?_)
  ·refine ns ?_
   refine Zl true (fun Zmk => ?_) (fun Zmk => ?_)
   ·(conv => whnf)
    refine st ?_
    exact wx (WS.mk (Zd (Zp (web Zmk)) Zb) Zc)
   ·(conv => whnf)
    refine st ?_
    exact wx (WS.mk (Zd (Zp (web Zmk)) Zb) Zc)
  obtain ⟨r0, hw⟩ := hw
  (conv => whnf)
  refine AWP.weak r0 hw ?_
  obtain rfl := Zh hF
  refine ns ?_
  refine Exists.intro [] ?_
  refine st ?_
  exact wx (WS.mk (tc Zb) Zc)

def Zbq (a : Za) (b : Za) : Option (Bool) :=
 ZbI a b >>= fun r1 =>
 ZbI b a >>= fun r2 =>
 Zaj r1 r2 0 r1.1
def Zbq.M (a : Za) (b : Za) (r : Bool) : Prop :=
 Zk Tryz.prog 27 [.agg [.v (.int .i64 a.fOp), .v (.string a.fName), .sl (a.fBound.fArgs.map Zi.cells), .sl (a.fKids.map Za.cells)], .agg [.v (.int .i64 b.fOp), .v (.string b.fName), .sl (b.fBound.fArgs.map Zi.cells), .sl (b.fKids.map Za.cells)]] [] (fun d b => d = .c none (.v (.bool r)) ∧ b = [])
theorem ZkH (a : Za) (b : Za) (r : Bool) (hF : Zbq a b = some r) : Zbq.M a b r := by
 unfold Zbq at hF
 unfold Zbq.M
 refine en Tryz.func27 ?_
 refine AWP.seq ?_
 refine ns ?_
 refine AWP.seq ?_
 obtain ⟨r1, hr1, hF⟩ := bind_some hF
 refine ns ?_
 refine e3 ?_
 refine st ?_
 refine cm (Zk.weak (rn []) (ZhD a b _ hr1) rfl (WS.mk (Zd (Zq (lc (lc (lc (lc Zn))))) (Zd (Zq (lc (lc (lc (lc Zn))))) Zb)) Zc)) ?_
 refine st ?_
 refine AWP.seq ?_
 obtain ⟨r2, hr2, hF⟩ := bind_some hF
 refine ns ?_
 refine e3 ?_
 refine st ?_
 refine cm (Zk.weak (rn []) (ZhD b a _ hr2) rfl (WS.mk (Zd (Zq (lc (lc (lc (lc Zn))))) (Zd (Zq (lc (lc (lc (lc Zn))))) Zb)) Zc)) ?_
 refine st ?_
 refine AWP.seq ?_
 refine AWP.seq ?_
 refine ns ?_
 refine AWP.block ?_
 refine AWP.loop ?_
 refine AWL.weak (rn []) ?_ (Zi6 r1 r2 0 r1.1 _ hF ([]) rfl rfl)
 exact (WS.mk (tc (tc (tc (tc Zb)))) Zc)

def Zbc (a : Za) (b : Za) : Option (Bool) :=
 ZcN ([a, b]) >>= fun r4 =>
 if (!r4) = true then
 ZbT >>= fun r6 =>
 some r6
 else
 Zbf a b >>= fun r7 =>
 Zdo a b >>= fun r8 =>
 Zdo b a >>= fun r9 =>
 Zbq a b >>= fun r11 =>
 (if (r7 == r11) = true then Zbf b a >>= fun r12 =>
 some (r7 == r12) else some false) >>= fun c13 =>
 (if (c13 && (r7 == ((r8.2 == 0) && (r9.2 == 0)))) = true then Zal a >>= fun r14 =>
 (if (!r14) = true then some true else Zbf a a >>= fun r15 =>
 some r15) >>= fun c16 =>
 some c16 else some false) >>= fun c17 =>
 (if c17 = true then ZbT >>= fun r18 =>
 some r18 else some false) >>= fun c19 =>
 some c19
def Zbc.M (a : Za) (b : Za) (r : Bool) : Prop :=
 Zk Tryz.prog 9 [.agg [.v (.int .i64 a.fOp), .v (.string a.fName), .sl (a.fBound.fArgs.map Zi.cells), .sl (a.fKids.map Za.cells)], .agg [.v (.int .i64 b.fOp), .v (.string b.fName), .sl (b.fBound.fArgs.map Zi.cells), .sl (b.fKids.map Za.cells)]] [] (fun d b => d = .c none (.v (.bool r)) ∧ b = [])
theorem Zh4 (a : Za) (b : Za) (r : Bool) (hF : Zbc a b = some r) : Zbc.M a b r := by
 unfold Zbc at hF
 unfold Zbc.M
 refine en Tryz.func9 ?_
 refine AWP.seq ?_
 refine ns ?_
 refine AWP.seq ?_
 refine AWP.seq ?_
 obtain ⟨r4, hr4, hF⟩ := bind_some hF
 refine ns ?_
 refine Exists.intro _ (And.intro (ZcZ (f := Za.cells) (Zem (Za.cells_eq a) (lc (lc (lc (lc Zn))))) (ZcZ (f := Za.cells) (Zem (Za.cells_eq b) (lc (lc (lc (lc Zn))))) (Zbb (f := Za.cells)))) ?_)
 refine st ?_
 refine Exists.intro [13] (Exists.intro [] (Exists.intro [] ?_))
 refine st ?_
 refine cm (Zk.weak (rn []) (ZlS ([a, b]) _ hr4) rfl (WS.mk (tc Zb) Zc)) ?_
 refine st ?_
 refine nw ?_
 refine Zj hF (fun hc5 hF => ?_) (fun hc5 hF => ?_)
 ·refine AWP.seq ?_
  obtain ⟨r6, hr6, hF⟩ := bind_some hF
  refine ns ?_
  refine e3 ?_
  refine st ?_
  refine cm (Zk.weak (rn []) (ZeQ _ hr6) rfl (WS.mk Zb Zc)) ?_
  refine st ?_
  obtain rfl := Zh hF
  refine ns ?_
  refine Exists.intro [] ?_
  refine st ?_
  exact wx (WS.mk (tc Zb) Zc)
 ·refine nw ?_
  refine AWP.seq ?_
  obtain ⟨r7, hr7, hF⟩ := bind_some hF
  refine ns ?_
  refine e3 ?_
  refine st ?_
  refine cm (Zk.weak (rn []) (ZgX a b _ hr7) rfl (WS.mk (Zd (Zq (lc (lc (lc (lc Zn))))) (Zd (Zq (lc (lc (lc (lc Zn))))) Zb)) Zc)) ?_
  refine st ?_
  refine AWP.seq ?_
  obtain ⟨r8, hr8, hF⟩ := bind_some hF
  refine ns ?_
  refine e3 ?_
  refine st ?_
  refine cm (Zk.weak (rn []) (Zlw a b _ hr8) rfl (WS.mk (Zd (Zq (lc (lc (lc (lc Zn))))) (Zd (Zq (lc (lc (lc (lc Zn))))) Zb)) Zc)) ?_
  refine st ?_
  refine AWP.seq ?_
  obtain ⟨r9, hr9, hF⟩ := bind_some hF
  refine ns ?_
  refine e3 ?_
  refine st ?_
  refine cm (Zk.weak (rn []) (Zlw b a _ hr9) rfl (WS.mk (Zd (Zq (lc (lc (lc (lc Zn))))) (Zd (Zq (lc (lc (lc (lc Zn))))) Zb)) Zc)) ?_
  refine st ?_
  refine AWP.seq ?_
  refine AWP.cutN (fun T => ∃ r, WS r T ⟨[(2, .ptr 2 0), (3, .ptr 3 0), (5, .c none (.v (.bool r7))), (10, .c none (.v (.bool ((r8.2 == 0) && (r9.2 == 0)))))], [(2, [(none, .v (.int .i64 a.fOp)), (none, .v (.string a.fName)), (none, .sl (a.fBound.fArgs.map Zi.cells)), (none, .sl (a.fKids.map Za.cells))]), (3, [(none, .v (.int .i64 b.fOp)), (none, .v (.string b.fName)), (none, .sl (b.fBound.fArgs.map Zi.cells)), (none, .sl (b.fKids.map Za.cells))])]⟩) ?_ (fun T hw => ?_)
  ·refine ns ?_
   refine Zl true (fun Zd5 => ?_) (fun Zd5 => ?_)
   ·(conv => whnf)
    refine st ?_
    exact wx (WS.mk (tp (tp (tc (Zd (Zp (web Zd5)) Zb)))) (Ze rfl (cc (cc (cc (cc Zg)))) (Ze rfl (cc (cc (cc (cc Zg)))) Zc)))
   ·(conv => whnf)
    refine st ?_
    exact wx (WS.mk (tp (tp (tc (Zd (Zp (web Zd5)) Zb)))) (Ze rfl (cc (cc (cc (cc Zg)))) (Ze rfl (cc (cc (cc (cc Zg)))) Zc)))
  obtain ⟨r0, hw⟩ := hw
  (conv => whnf)
  refine AWP.weak r0 hw ?_
  refine AWP.seq ?_
  obtain ⟨r11, ZrK, hF⟩ := bind_some hF
  obtain ⟨c13, Zbp, hF⟩ := bind_some hF
  obtain ⟨c17, Zdd, hF⟩ := bind_some hF
  obtain ⟨c19, Zey, hF⟩ := bind_some hF
  refine AWP.cutN (fun T => ∃ r, WS r T ⟨[(4, .c none (.v (.bool c19)))], []⟩) ?_ (fun T hw => ?_)
  ·refine ns ?_
   refine e3 ?_
   refine st ?_
   refine cm (Zk.weak (rn []) (ZkH a b _ ZrK) rfl (WS.mk (Zd (Zq (lc (lc (lc (lc Zn))))) (Zd (Zq (lc (lc (lc (lc Zn))))) Zb)) Zc)) ?_
   refine st ?_
   refine Zl true (fun Zge => ?_) (fun Zge => ?_)
   ·have Zbp := ift Zge Zbp
    obtain ⟨r12, Zsa, Zbp⟩ := bind_some Zbp
    (conv => whnf)
    refine st ?_
    refine e3 ?_
    refine st ?_
    refine cm (Zk.weak (rn []) (ZgX b a _ Zsa) rfl (WS.mk (Zd (Zq (lc (lc (lc (lc Zn))))) (Zd (Zq (lc (lc (lc (lc Zn))))) Zb)) Zc)) ?_
    refine st ?_
    obtain rfl := Zh Zbp
    refine st ?_
    refine Zl true (fun ZfX => ?_) (fun ZfX => ?_)
    ·(conv => whnf)
     refine st ?_
     refine Zl true (fun ZgV => ?_) (fun ZgV => ?_)
     ·have Zdd := ift (And.intro Zge (And.intro ZfX ZgV)) Zdd
      obtain ⟨r14, Zmp, Zdd⟩ := bind_some Zdd
      obtain ⟨c16, Zdu, Zdd⟩ := bind_some Zdd
      (conv => whnf)
      refine st ?_
      refine e3 ?_
      refine st ?_
      refine cm (Zk.weak (rn []) (Ze1 a _ Zmp) rfl (WS.mk (Zd (Zq (lc (lc (lc (lc Zn))))) Zb) Zc)) ?_
      refine st ?_
      refine Zl false (fun Zlj => ?_) (fun Zlj => ?_)
      ·have Zdu := ift (And.intro Zge (And.intro ZfX (And.intro ZgV Zlj))) Zdu
       (conv => whnf)
       obtain rfl := Zh Zdu
       obtain rfl := Zh Zdd
       have Zey := ift (And.intro Zge (And.intro ZfX (And.intro ZgV Zlj))) Zey
       obtain ⟨r18, ZyV, Zey⟩ := bind_some Zey
       refine st ?_
       refine e3 ?_
       refine st ?_
       refine cm (Zk.weak (rn []) (ZeQ _ ZyV) rfl (WS.mk Zb Zc)) ?_
       refine st ?_
       obtain rfl := Zh Zey
       refine st ?_
       exact wx (WS.mk (Zd (Zp (web (And.intro Zge (And.intro ZfX (And.intro ZgV Zlj))))) Zb) Zc)
      ·have Zdu := ife (And.intro Zge (And.intro ZfX (And.intro ZgV Zlj))) Zdu
       obtain ⟨r15, ZtZ, Zdu⟩ := bind_some Zdu
       (conv => whnf)
       refine st ?_
       refine e3 ?_
       refine st ?_
       refine cm (Zk.weak (rn []) (ZgX a a _ ZtZ) rfl (WS.mk (Zd (Zq (lc (lc (lc (lc Zn))))) (Zd (Zq (lc (lc (lc (lc Zn))))) Zb)) Zc)) ?_
       refine st ?_
       obtain rfl := Zh Zdu
       obtain rfl := Zh Zdd
       refine st ?_
       refine Zl true (fun ZpT => ?_) (fun ZpT => ?_)
       ·have Zey := ift (And.intro Zge (And.intro ZfX (And.intro ZgV (And.intro Zlj ZpT)))) Zey
        obtain ⟨r18, ZyV, Zey⟩ := bind_some Zey
        (conv => whnf)
        refine st ?_
        refine e3 ?_
        refine st ?_
        refine cm (Zk.weak (rn []) (ZeQ _ ZyV) rfl (WS.mk Zb Zc)) ?_
        refine st ?_
        obtain rfl := Zh Zey
        refine st ?_
        exact wx (WS.mk (Zd (Zp (web (And.intro Zge (And.intro ZfX (And.intro ZgV (And.intro Zlj ZpT)))))) Zb) Zc)
       ·have Zey := ife (And.intro Zge (And.intro ZfX (And.intro ZgV (And.intro Zlj ZpT)))) Zey
        (conv => whnf)
        obtain rfl := Zh Zey
        refine st ?_
        exact wx (WS.mk (Zd (Zp (web (And.intro Zge (And.intro ZfX (And.intro ZgV (And.intro Zlj ZpT)))))) Zb) Zc)
     ·have Zdd := ife (And.intro Zge (And.intro ZfX ZgV)) Zdd
      (conv => whnf)
      obtain rfl := Zh Zdd
      have Zey := ife (And.intro Zge (And.intro ZfX ZgV)) Zey
      obtain rfl := Zh Zey
      refine st ?_
      exact wx (WS.mk (Zd (Zp (web (And.intro Zge (And.intro ZfX ZgV)))) Zb) Zc)
    ·(conv => whnf)
     have Zdd := ife (And.intro Zge ZfX) Zdd
     obtain rfl := Zh Zdd
     have Zey := ife (And.intro Zge ZfX) Zey
     obtain rfl := Zh Zey
     refine st ?_
     exact wx (WS.mk (Zd (Zp (web (And.intro Zge ZfX))) Zb) Zc)
   ·have Zbp := ife Zge Zbp
    (conv => whnf)
    obtain rfl := Zh Zbp
    have Zdd := ife Zge Zdd
    obtain rfl := Zh Zdd
    have Zey := ife Zge Zey
    obtain rfl := Zh Zey
    refine st ?_
    exact wx (WS.mk (Zd (Zp (web Zge)) Zb) Zc)
  obtain ⟨r0, hw⟩ := hw
  (conv => whnf)
  refine AWP.weak r0 hw ?_
  obtain rfl := Zh hF
  refine ns ?_
  refine Exists.intro [] ?_
  refine st ?_
  exact wx (WS.mk (tc Zb) Zc)

end Go.Proofs.YtgbglhbdjambbaaGreatDoor
