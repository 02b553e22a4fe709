/- Part 6 of the proof: the program's functions as Lean functions with their walks, and the plain law. It holds for every input, without conditions. -/
import Derived.Test.YtklkaikbpciepaaGreatDoorSfA
import Derived.Test.YtklkaikbpciepaaGreatDoorSfB
import Derived.Test.YtklkaikbpciepaaGreatDoorSfC
import Derived.Test.YtklkaikbpciepaaGreatDoorSfD
import Derived.Test.YtklkaikbpciepaaGreatDoorSfE
set_option linter.unusedVariables false
set_option linter.unusedSimpArgs false
set_option maxRecDepth 100000
set_option maxHeartbeats 4000000
set_option synthInstance.maxHeartbeats 1000000
set_option synthInstance.maxSize 1000
namespace Go.Proofs.YtklkaikbpciepaaGreatDoor
open Go Go.Am
def Zam (l : (List ByteArray)) (Zad : Nat) (g2_c0 : Zo) (r28 : (Zh)) (Zv : (List (ByteArray × Int))) (Zu : (List ByteArray)) : Option (Zh) :=
 (match Zu with
 | x39 :: Zez =>
 Zcf Zv 0 x39 >>= fun r42 =>
 Zam l (Zad + 1) g2_c0 r28 (ZcQ Zv x39 (IntKind.i64.wrap (r42.1 - 1))) Zez
 | [] =>
 some (Zh.mk r28.fcons Zv r28.fbad))
 partial_fixpoint
def Zam.M (l : (List ByteArray)) (Zad : Nat) (g2_c0 : Zo) (r28 : (Zh)) (Zv : (List (ByteArray × Int))) (Zu : (List ByteArray)) (r : Zh) : Prop :=
 ∀ Z5 : List ByteArray, l = Z5 ++ Zu → Zad = Z5.length → l.length ≤ maxLen → AWL Tryz.prog 34 (Code.sub (Zt Tryz.f78) [1, 1, 1, 0, 0]) (Code.cont Tryz.prog 34 (Zt Tryz.f78) [1, 1, 1, 0] (Zbl tab Tryz.f78.results (Zbo (.tup []) [(1000, [(none, .v (.int .i64 g2_c0.fOp)), (none, .v (.string g2_c0.fName)), (none, .sl (g2_c0.fArgs.map Zq.cells)), (none, .v (.bool g2_c0.fRec)), (none, .sl (g2_c0.fBinds.map Zc.cells)), (none, .sl (g2_c0.fKids.map Zo.cells)), (none, .sl (g2_c0.fAlts.map Zi.cells))]), (1001, [(none, .pt 1002 0)]), (1002, [(none, .rf 1003), (none, .rf 1004), (none, .v (.bool r.fbad))]), (1003, [(none, .ob 165 (r.fcons.map (Zz c_S Zm)))]), (1004, [(none, .ob 167 (r.flocal.map (Zz c_S Zm)))])]))) ⟨[(0, .c none (.rf 1004)), (23, .c none (.sl (l.map c_S))), (24, .c none (.v (.int .i64 ((l.length : Nat) : Int)))), (25, .c none (.v (.int .i64 ((Zad : Nat) : Int))))], [(1000, [(none, .v (.int .i64 g2_c0.fOp)), (none, .v (.string g2_c0.fName)), (none, .sl (g2_c0.fArgs.map Zq.cells)), (none, .v (.bool g2_c0.fRec)), (none, .sl (g2_c0.fBinds.map Zc.cells)), (none, .sl (g2_c0.fKids.map Zo.cells)), (none, .sl (g2_c0.fAlts.map Zi.cells))]), (1001, [(none, .pt 1002 0)]), (1002, [(none, .rf 1003), (none, .rf 1004), (none, .v (.bool r28.fbad))]), (1003, [(none, .ob 165 (r28.fcons.map (Zz c_S Zm)))]), (1004, [(none, .ob 167 (Zv.map (Zz c_S Zm)))])]⟩
theorem Zfq (l : (List ByteArray)) (Zad : Nat) (g2_c0 : Zo) (r28 : (Zh)) (Zv : (List (ByteArray × Int))) (Zu : (List ByteArray)) : ∀ r, Zam l Zad g2_c0 r28 Zv Zu = some r → Zam.M l Zad g2_c0 r28 Zv Zu r := by
 refine Zam.partial_correctness l g2_c0 r28 (fun Zad Zv Zu r => Zam.M l Zad g2_c0 r28 Zv Zu r) ?_ Zad Zv Zu
 intro stg_scope_with_stg_checker_expr_3_l2' ZdB Zad Zv Zu r hF
 have Zfx := fun (_l : (List ByteArray)) (Zad : Nat) (_g2_c0 : Zo) (_r28 : (Zh)) (Zv : (List (ByteArray × Int))) (Zu : (List ByteArray)) => ZdB Zad Zv Zu
 clear ZdB
 unfold Zam.M
 intro Z5 ZbI ZbJ hlen29
 refine AWL.step ?_
 refine AWP.seq ?_
 refine ns ?_
 refine AWP.seq ?_
 refine nw ?_
 refine ZB ZbI ZbJ (fun x39 Zez Zev Zi9 Zi4 => ?_) (fun Zev => ?_)
 ·subst Zev
  refine nw ?_
  refine AWP.seq ?_
  refine AWP.block ?_
  refine AWP.seq ?_
  refine nn ?_
  refine sr (Z9 (f := c_S) rfl Zi9) ?_
  refine st ?_
  obtain ⟨r42, Zit, hF⟩ := bind_some hF
  refine ns ?_
  refine ZbB (m := Zv) (k := x39) Zay (ev := Zm) Zit rfl (fun x => ZaO x) rfl rfl (lc Zr) ?_
  refine st ?_
  refine ZcI (m := Zv) (k := x39) (v := (IntKind.i64.wrap (r42.1 - 1))) Zay (ev := Zm) (lc Zr) ?_
  refine st ?_
  refine ns ?_
  refine AWL.weak (rn []) ?_ (Zfx l (Zad + 1) g2_c0 r28 (ZcQ Zv x39 (IntKind.i64.wrap (r42.1 - 1))) Zez _ hF (Z5 ++ [x39]) (by rw [ZbI]; simp) (by rw [ZbJ]; simp) hlen29)
  exact (WS.mk (tc (tc (tc (Zj (Zaj (Zcw (ZD hlen29 Zi4))) Ze)))) (Za rfl (cc (cc (cc (cc (cc (cc (cc Zb))))))) (Za rfl (cc Zb) (Za rfl (cc (cc (cc Zb))) (Za rfl (cc Zb) (Za rfl (cc Zb) Zf))))))
 ·subst Zev
  refine nw ?_
  obtain rfl := Zs hF
  refine Exists.intro [(1000, 1000), (1001, 1001), (1002, 1002), (1003, 1003), (1004, 1004)] ?_
  refine st ?_
  exact wx (WS.mk (Zj (Zb1 Zb3) Ze) (Za rfl (cc (cc (cc (cc (cc (cc (cc Zb))))))) (Za rfl (cc Zb) (Za rfl (cc (cc (cc Zb))) (Za rfl (cc Zb) (Za rfl (cc Zb) Zf))))))

def ZeZ (e : Zo) (Zut : Bool) : Option (Bool) :=
 if Zut = true then
 some ((((e.fArgs.length : Nat) : Int) == ((e.fArgs.length : Nat) : Int)) && ((((e.fBinds.length : Nat) : Int) == 0) && ((((e.fKids.length : Nat) : Int) == 0) && ((((e.fAlts.length : Nat) : Int) == 0) && true))))
 else
 if (e.fOp == 5) = true then
 some (((((e.fArgs.length : Nat) : Int) == 0) && ((((e.fBinds.length : Nat) : Int) == (if ((e.fBinds.length : Nat) : Int) > 1 then ((e.fBinds.length : Nat) : Int) else 1)) && ((((e.fKids.length : Nat) : Int) == 1) && ((((e.fAlts.length : Nat) : Int) == 0) && true)))) && (e.fRec || (((e.fBinds.length : Nat) : Int) == 1)))
 else
 if (e.fOp == 6) = true then
 some ((((e.fArgs.length : Nat) : Int) == 0) && ((((e.fBinds.length : Nat) : Int) == 0) && ((((e.fKids.length : Nat) : Int) == 1) && ((((e.fAlts.length : Nat) : Int) == (if ((e.fAlts.length : Nat) : Int) > 1 then ((e.fAlts.length : Nat) : Int) else 1)) && true))))
 else
 some false
def ZeZ.M (e : Zo) (Zut : Bool) (r : Bool) : Prop :=
 e.fArgs.length ≤ maxLen → e.fBinds.length ≤ maxLen → e.fKids.length ≤ maxLen → e.fAlts.length ≤ maxLen → AWP Tryz.prog 112 (Code.sub (Zt Tryz.f110) [1, 1, 1, 1, 0, 1, 0, 1, 1, 1, 1, 1]) (Code.cont Tryz.prog 112 (Zt Tryz.f110) [1, 1, 1, 1, 0, 1, 0, 1, 1, 1, 1, 1] (Zbl tab Tryz.f110.results (Zbo (.c none (.v (.bool r))) []))) ⟨[(1, .ptr 1 0), (4, .ptr 4 0), (60, .c none (.v (.int .i64 e.fOp))), (75, .c none (.v (.bool Zut)))], [(1, [(none, .v (.int .i64 e.fOp)), (none, .v (.string e.fName)), (none, .sl (e.fArgs.map Zq.cells)), (none, .v (.bool e.fRec)), (none, .sl (e.fBinds.map Zc.cells)), (none, .sl (e.fKids.map Zo.cells)), (none, .sl (e.fAlts.map Zi.cells))]), (4, [(none, .v (.int .i64 ((e.fArgs.length : Nat) : Int))), (none, .v (.int .i64 ((e.fBinds.length : Nat) : Int))), (none, .v (.int .i64 ((e.fKids.length : Nat) : Int))), (none, .v (.int .i64 ((e.fAlts.length : Nat) : Int)))])]⟩
theorem Zkt (e : Zo) (Zut : Bool) (r : Bool) (hF : ZeZ e Zut = some r) : ZeZ.M e Zut r := by
 unfold ZeZ at hF
 unfold ZeZ.M
 intro hlen13 hlen14 hlen15 hlen16
 refine nw ?_
 refine Zw hF (fun ZvQ hF => ?_) (fun ZvQ hF => ?_)
 ·refine AWP.seq ?_
  refine ns ?_
  intro hlen22
  (try rw [List.length_map] at hlen22)
  (try rw [List.length_map])
  refine st ?_
  obtain rfl := Zs hF
  refine ns ?_
  refine Exists.intro [] ?_
  refine st ?_
  exact wx (WS.mk (tc Ze) Zf)
 ·refine AWP.seq ?_
  refine ns ?_
  refine nw ?_
  refine Zw hF (fun Zjm hF => ?_) (fun Zjm hF => ?_)
  ·refine AWP.seq ?_
   refine AWP.cutN (fun T => ∃ r, WS r T ⟨[(2, .c none (.v (.bool (((((e.fArgs.length : Nat) : Int) == 0) && ((((e.fBinds.length : Nat) : Int) == (if ((e.fBinds.length : Nat) : Int) > 1 then ((e.fBinds.length : Nat) : Int) else 1)) && ((((e.fKids.length : Nat) : Int) == 1) && ((((e.fAlts.length : Nat) : Int) == 0) && true)))) && (e.fRec || (((e.fBinds.length : Nat) : Int) == 1))))))], []⟩) ?_ (fun T hw => ?_)
   ·refine ns ?_
    intro hlen24
    (try rw [List.length_map] at hlen24)
    (try rw [List.length_map])
    refine st ?_
    refine ZA true (fun ZwC => ?_) (fun ZwC => ?_)
    ·(conv => whnf)
     refine st ?_
     refine ZA false (fun Zxf => ?_) (fun Zxf => ?_)
     ·(conv => whnf)
      refine st ?_
      exact wx (WS.mk (Zj (Zaj (web (And.intro ZwC Zxf))) Ze) Zf)
     ·(conv => whnf)
      refine st ?_
      intro hlen25
      (try rw [List.length_map] at hlen25)
      (try rw [List.length_map])
      refine st ?_
      exact wx (WS.mk (Zj (Zaj (web (And.intro ZwC Zxf))) Ze) Zf)
    ·(conv => whnf)
     refine st ?_
     exact wx (WS.mk (Zj (Zaj (web ZwC)) Ze) Zf)
   obtain ⟨r0, hw⟩ := hw
   (conv => whnf)
   refine AWP.weak r0 hw ?_
   obtain rfl := Zs hF
   refine ns ?_
   refine Exists.intro [] ?_
   refine st ?_
   exact wx (WS.mk (tc Ze) Zf)
  ·refine AWP.seq ?_
   refine ns ?_
   refine nw ?_
   refine Zw hF (fun Zxm hF => ?_) (fun Zxm hF => ?_)
   ·refine AWP.seq ?_
    refine ns ?_
    intro hlen29
    (try rw [List.length_map] at hlen29)
    (try rw [List.length_map])
    refine st ?_
    obtain rfl := Zs hF
    refine ns ?_
    refine Exists.intro [] ?_
    refine st ?_
    exact wx (WS.mk (tc Ze) Zf)
   ·refine nw ?_
    refine AWP.seq ?_
    refine ns ?_
    obtain rfl := Zs hF
    refine ns ?_
    refine Exists.intro [] ?_
    refine st ?_
    exact wx (WS.mk (tc Ze) Zf)

def ZgO (e : Zo) : Option (Bool) :=
 Zdy e.fName >>= fun r6 =>
 if (((!(((((e.fOp == 2) || (e.fOp == 3)) || (e.fOp == 4)) || (e.fOp == 6)) == r6)) || ((!((((e.fOp == 2) || (e.fOp == 3)) || (e.fOp == 4)) || (e.fOp == 6))) && (!(e.fName.toList == (ByteArray.mk #[]).toList)))) || (e.fRec && (e.fOp != 5))) = true then
 some false
 else
 if (e.fOp == 1) = true then
 some ((((e.fArgs.length : Nat) : Int) == 1) && ((((e.fBinds.length : Nat) : Int) == 0) && ((((e.fKids.length : Nat) : Int) == 0) && ((((e.fAlts.length : Nat) : Int) == 0) && true))))
 else
 if (e.fOp == 2) = true then
 some ((((e.fArgs.length : Nat) : Int) == (if ((e.fArgs.length : Nat) : Int) > 1 then ((e.fArgs.length : Nat) : Int) else 1)) && ((((e.fBinds.length : Nat) : Int) == 0) && ((((e.fKids.length : Nat) : Int) == 0) && ((((e.fAlts.length : Nat) : Int) == 0) && true))))
 else
 if (e.fOp == 3) = true then
 ZeZ e (e.fOp == 3)
 else
 ZeZ e (e.fOp == 4)
def ZgO.M (e : Zo) (r : Bool) : Prop :=
 Zn Tryz.prog 110 [.agg [.v (.int .i64 e.fOp), .v (.string e.fName), .sl (e.fArgs.map Zq.cells), .v (.bool e.fRec), .sl (e.fBinds.map Zc.cells), .sl (e.fKids.map Zo.cells), .sl (e.fAlts.map Zi.cells)]] [] (fun d b => d = .c none (.v (.bool r)) ∧ b = [])
theorem ZqJ (e : Zo) (r : Bool) (hF : ZgO e = some r) : ZgO.M e r := by
 unfold ZgO at hF
 unfold ZgO.M
 refine en Tryz.func110 ?_
 refine AWP.seq ?_
 refine ns ?_
 refine AWP.seq ?_
 refine AWP.cutN (fun T => ∃ r, WS r T ⟨[(1, .ptr 1 0), (3, .c none (.v (.bool ((((e.fOp == 2) || (e.fOp == 3)) || (e.fOp == 4)) || (e.fOp == 6)))))], [(1, [(none, .v (.int .i64 e.fOp)), (none, .v (.string e.fName)), (none, .sl (e.fArgs.map Zq.cells)), (none, .v (.bool e.fRec)), (none, .sl (e.fBinds.map Zc.cells)), (none, .sl (e.fKids.map Zo.cells)), (none, .sl (e.fAlts.map Zi.cells))])]⟩) ?_ (fun T hw => ?_)
 ·refine ns ?_
  refine ZA false (fun hc1 => ?_) (fun hc1 => ?_)
  ·(conv => whnf)
   refine st ?_
   exact wx (WS.mk (tp (Zj (Zaj (web hc1)) Ze)) (Za rfl (cc (cc (cc (cc (cc (cc (cc Zb))))))) Zf))
  ·(conv => whnf)
   refine st ?_
   refine ZA false (fun hc2 => ?_) (fun hc2 => ?_)
   ·(conv => whnf)
    refine st ?_
    exact wx (WS.mk (tp (Zj (Zaj (web (And.intro hc1 hc2))) Ze)) (Za rfl (cc (cc (cc (cc (cc (cc (cc Zb))))))) Zf))
   ·(conv => whnf)
    refine st ?_
    refine ZA false (fun hc3 => ?_) (fun hc3 => ?_)
    ·(conv => whnf)
     refine st ?_
     exact wx (WS.mk (tp (Zj (Zaj (web (And.intro hc1 (And.intro hc2 hc3)))) Ze)) (Za rfl (cc (cc (cc (cc (cc (cc (cc Zb))))))) Zf))
    ·(conv => whnf)
     refine st ?_
     exact wx (WS.mk (tp (Zj (Zaj (web (And.intro hc1 (And.intro hc2 hc3)))) Ze)) (Za rfl (cc (cc (cc (cc (cc (cc (cc Zb))))))) Zf))
 obtain ⟨r0, hw⟩ := hw
 (conv => whnf)
 refine AWP.weak r0 hw ?_
 refine AWP.seq ?_
 refine AWP.seq ?_
 obtain ⟨r6, hr6, hF⟩ := bind_some hF
 refine AWP.cutN (fun T => ∃ r, WS r T ⟨[(1, .ptr 1 0), (45, .c none (.v (.bool (((!(((((e.fOp == 2) || (e.fOp == 3)) || (e.fOp == 4)) || (e.fOp == 6)) == r6)) || ((!((((e.fOp == 2) || (e.fOp == 3)) || (e.fOp == 4)) || (e.fOp == 6))) && (!(e.fName.toList == (ByteArray.mk #[]).toList)))) || (e.fRec && (e.fOp != 5))))))], [(1, [(none, .v (.int .i64 e.fOp)), (none, .v (.string e.fName)), (none, .sl (e.fArgs.map Zq.cells)), (none, .v (.bool e.fRec)), (none, .sl (e.fBinds.map Zc.cells)), (none, .sl (e.fKids.map Zo.cells)), (none, .sl (e.fAlts.map Zi.cells))])]⟩) ?_ (fun T hw => ?_)
 ·refine ns ?_
  refine e3 ?_
  refine st ?_
  refine cm (Zn.weak (rn []) (ZfP e.fName _ hr6) rfl (WS.mk (tc Ze) Zf)) ?_
  refine st ?_
  refine ZA false (fun hc7 => ?_) (fun hc7 => ?_)
  ·(conv => whnf)
   refine st ?_
   exact wx (WS.mk (tp (Zj (Zaj (web hc7)) Ze)) (Za rfl (cc (cc (cc (cc (cc (cc (cc Zb))))))) Zf))
  ·(conv => whnf)
   refine st ?_
   refine ZA true (fun hc8 => ?_) (fun hc8 => ?_)
   ·(conv => whnf)
    refine st ?_
    refine ZA false (fun hc9 => ?_) (fun hc9 => ?_)
    ·(conv => whnf)
     refine st ?_
     exact wx (WS.mk (tp (Zj (Zaj (web (And.intro hc7 (And.intro hc8 hc9)))) Ze)) (Za rfl (cc (cc (cc (cc (cc (cc (cc Zb))))))) Zf))
    ·(conv => whnf)
     refine st ?_
     refine ZA true (fun ZxO => ?_) (fun ZxO => ?_)
     ·(conv => whnf)
      refine st ?_
      exact wx (WS.mk (tp (Zj (Zaj (web (And.intro hc7 (And.intro hc8 (And.intro hc9 ZxO))))) Ze)) (Za rfl (cc (cc (cc (cc (cc (cc (cc Zb))))))) Zf))
     ·(conv => whnf)
      refine st ?_
      exact wx (WS.mk (tp (Zj (Zaj (web (And.intro hc7 (And.intro hc8 (And.intro hc9 ZxO))))) Ze)) (Za rfl (cc (cc (cc (cc (cc (cc (cc Zb))))))) Zf))
   ·(conv => whnf)
    refine st ?_
    refine ZA true (fun ZeF => ?_) (fun ZeF => ?_)
    ·(conv => whnf)
     refine st ?_
     exact wx (WS.mk (tp (Zj (Zaj (web (And.intro hc7 (And.intro hc8 ZeF)))) Ze)) (Za rfl (cc (cc (cc (cc (cc (cc (cc Zb))))))) Zf))
    ·(conv => whnf)
     refine st ?_
     exact wx (WS.mk (tp (Zj (Zaj (web (And.intro hc7 (And.intro hc8 ZeF)))) Ze)) (Za rfl (cc (cc (cc (cc (cc (cc (cc Zb))))))) Zf))
 obtain ⟨r0, hw⟩ := hw
 (conv => whnf)
 refine AWP.weak r0 hw ?_
 refine nw ?_
 refine Zw hF (fun Zck hF => ?_) (fun Zck hF => ?_)
 ·refine AWP.seq ?_
  refine ns ?_
  obtain rfl := Zs hF
  refine ns ?_
  refine Exists.intro [] ?_
  refine st ?_
  exact wx (WS.mk (tc Ze) Zf)
 ·refine nw ?_
  refine AWP.seq ?_
  refine ns ?_
  intro hlen13
  (try rw [List.length_map] at hlen13)
  (try rw [List.length_map])
  refine st ?_
  intro hlen14
  (try rw [List.length_map] at hlen14)
  (try rw [List.length_map])
  refine st ?_
  intro hlen15
  (try rw [List.length_map] at hlen15)
  (try rw [List.length_map])
  refine st ?_
  intro hlen16
  (try rw [List.length_map] at hlen16)
  (try rw [List.length_map])
  refine st ?_
  refine AWP.seq ?_
  refine AWP.seq ?_
  refine ns ?_
  refine AWP.block ?_
  refine AWP.seq ?_
  refine ns ?_
  refine nw ?_
  refine Zw hF (fun ZsV hF => ?_) (fun ZsV hF => ?_)
  ·refine AWP.seq ?_
   refine ns ?_
   obtain rfl := Zs hF
   refine ns ?_
   refine Exists.intro [] ?_
   refine st ?_
   exact wx (WS.mk (tc Ze) Zf)
  ·refine AWP.seq ?_
   refine ns ?_
   refine nw ?_
   refine Zw hF (fun Zq8 hF => ?_) (fun Zq8 hF => ?_)
   ·refine AWP.seq ?_
    refine ns ?_
    intro hlen19
    (try rw [List.length_map] at hlen19)
    (try rw [List.length_map])
    refine st ?_
    obtain rfl := Zs hF
    refine ns ?_
    refine Exists.intro [] ?_
    refine st ?_
    exact wx (WS.mk (tc Ze) Zf)
   ·refine AWP.seq ?_
    refine AWP.seq ?_
    refine ns ?_
    refine nw ?_
    refine Zw hF (fun ZAU hF => ?_) (fun ZAU hF => ?_)
    ·refine nw ?_
     refine AWP.weak (rn []) ?_ (Zkt e (e.fOp == 3) _ hF hlen13 hlen14 hlen15 hlen16)
     exact (WS.mk (tp (tp (tc (tc Ze)))) (Za rfl (cc (cc (cc (cc (cc (cc (cc Zb))))))) (Za rfl (cc (cc (cc (cc Zb)))) Zf)))
    ·refine ns ?_
     refine AWP.weak (rn []) ?_ (Zkt e (e.fOp == 4) _ hF hlen13 hlen14 hlen15 hlen16)
     exact (WS.mk (tp (tp (tc (tc Ze)))) (Za rfl (cc (cc (cc (cc (cc (cc (cc Zb))))))) (Za rfl (cc (cc (cc (cc Zb)))) Zf)))

mutual
def Zbq (c : Zh) (b : Zc) (top : Bool) : Option (Zh) :=
 if (b.fOp == 1) = true then
 Zae c (decide (((b.fParams.length : Nat) : Int) > 0)) >>= fun r75 =>
 Zbh top b r75.fbad r75.fcons r75.flocal
 else
 if (b.fOp == 2) = true then
 Zae c (((b.fParams.length : Nat) : Int) == 0) >>= fun r78 =>
 Zbh top b r78.fbad r78.fcons r78.flocal
 else
 if (b.fOp == 3) = true then
 Zae c ((((b.fParams.length : Nat) : Int) == 0) && (b.fBody.fOp == 3)) >>= fun r81 =>
 Zbh top b r81.fbad r81.fcons r81.flocal
 else
 Zbh top b true c.fcons c.flocal
 partial_fixpoint
def Zbh (top : Bool) (b : Zc) (ZK : Bool) (ZJ : (List (ByteArray × Int))) (Zp : (List (ByteArray × Int))) : Option (Zh) :=
 Zdy b.fName >>= fun r14 =>
 (if r14 = true then ZcV b.fParams >>= fun r15 =>
 some r15 else some false) >>= fun c16 =>
 Zae (Zh.mk ZJ Zp ZK) c16 >>= fun r17 =>
 Zd1 b >>= fun r42 =>
 ZbV top ([]) r42 0 b r17 r42
 partial_fixpoint
def ZbV (top : Bool) (ZgS : (List ByteArray)) (r42 : ((List ByteArray))) (ZnX : Nat) (b : Zc) (r17 : (Zh)) (ZjS : (List ByteArray)) : Option (Zh) :=
 (match ZjS with
 | x59 :: ZuO =>
 (if (!top) = true then Zcf r17.flocal 0 x59 >>= fun r62 =>
 some (decide (r62.1 > 0)) else some false) >>= fun c63 =>
 if c63 = true then
 ZaY ((ZgS.length + ([x59]).length) * 16 ≤ 140737488355328) >>= fun _ =>
 ZbV top (ZgS ++ ([x59])) r42 (ZnX + 1) b r17 ZuO
 else
 ZbV top ZgS r42 (ZnX + 1) b r17 ZuO
 | [] =>
 ZbX ZgS b.fFree >>= fun r69 =>
 Zae r17 r69 >>= fun r70 =>
 Zak b.fParams r70 b >>= fun r72 =>
 some r72)
 partial_fixpoint
def Zak (l : (List ByteArray)) (g2_c0 : Zh) (g2_c1 : Zc) : Option (Zh) :=
 ZZ l 0 g2_c0 g2_c0.flocal g2_c1 l
 partial_fixpoint
def ZZ (l : (List ByteArray)) (ZaS : Nat) (g2_c0 : Zh) (Zk : (List (ByteArray × Int))) (g2_c1 : Zc) (ZF : (List ByteArray)) : Option (Zh) :=
 (match ZF with
 | x24 :: Zeb =>
 Zcf Zk 0 x24 >>= fun r27 =>
 ZZ l (ZaS + 1) g2_c0 (ZcQ Zk x24 (IntKind.i64.wrap (r27.1 + 1))) g2_c1 Zeb
 | [] =>
 Zbj (Zh.mk g2_c0.fcons Zk g2_c0.fbad) g2_c1 >>= fun r28 =>
 ZQ l 0 r28 r28.flocal g2_c1 l)
 partial_fixpoint
def Zbj (v0_ : Zh) (v1_ : Zc) : Option (Zh) :=
 ZbF v0_ v1_.fBody >>= fun r1 =>
 some r1
 partial_fixpoint
def ZbF (c : Zh) (e : Zo) : Option (Zh) :=
 ZgO e >>= fun r3 =>
 Zae c r3 >>= fun r4 =>
 if r4.fbad = true then
 some r4
 else
 ZbA e 0 r4.fbad r4.fcons r4.flocal e.fArgs
 partial_fixpoint
def ZbA (e : Zo) (ZoP : Nat) (ZK : Bool) (ZJ : (List (ByteArray × Int))) (Zp : (List (ByteArray × Int))) (Zj7 : (List Zq)) : Option (Zh) :=
 (match Zj7 with
 | x55 :: ZvW =>
 Zjz x55 >>= fun r60 =>
 Zae (Zh.mk ZJ Zp ZK) r60 >>= fun r61 =>
 if (x55.fOp == 1) = true then
 Zcx r61 x55.fName >>= fun r63 =>
 ZbA e (ZoP + 1) r63.fbad r63.fcons r63.flocal ZvW
 else
 ZbA e (ZoP + 1) r61.fbad r61.fcons r61.flocal ZvW
 | [] =>
 if (e.fOp == 2) = true then
 Zcx (Zh.mk ZJ Zp ZK) e.fName >>= fun r65 =>
 some r65
 else
 if (e.fOp == 3) = true then
 ZcG (Zh.mk ZJ Zp ZK) e.fName ((e.fArgs.length : Nat) : Int) >>= fun r68 =>
 some r68
 else
 if (e.fOp == 5) = true then
 ZeL e.fBinds >>= fun r70 =>
 ZcV r70 >>= fun r73 =>
 Zae (Zh.mk ZJ Zp ZK) r73 >>= fun r74 =>
 if e.fRec = true then
 Za2 r70 e r74 >>= fun r80 =>
 ZcO r70 e r80.fbad r80.fcons r80.flocal
 else
 ZcL e r74 >>= fun r81 =>
 ZcO r70 e r81.fbad r81.fcons r81.flocal
 else
 if (e.fOp == 6) = true then
 Zd7 e.fName e.fAlts >>= fun r85 =>
 Zae (Zh.mk ZJ Zp ZK) r85 >>= fun r86 =>
 (ixI e.fKids 0) >>= fun x89 =>
 ZbF r86 x89 >>= fun r90 =>
 Za3 ([e.fName]) e r90 >>= fun r92 =>
 some r92
 else
 some (Zh.mk ZJ Zp ZK))
 partial_fixpoint
def Za3 (l : (List ByteArray)) (g2_c0 : Zo) (g2_c1 : Zh) : Option (Zh) :=
 Zaz l 0 g2_c0 g2_c1 g2_c1.flocal l
 partial_fixpoint
def Zaz (l : (List ByteArray)) (ZaS : Nat) (g2_c0 : Zo) (g2_c1 : Zh) (Zv : (List (ByteArray × Int))) (ZF : (List ByteArray)) : Option (Zh) :=
 (match ZF with
 | x24 :: Zeb =>
 Zcf Zv 0 x24 >>= fun r27 =>
 Zaz l (ZaS + 1) g2_c0 g2_c1 (ZcQ Zv x24 (IntKind.i64.wrap (r27.1 + 1))) Zeb
 | [] =>
 Zdr g2_c0 (Zh.mk g2_c1.fcons Zv g2_c1.fbad) >>= fun r28 =>
 Zam l 0 g2_c0 r28 r28.flocal l)
 partial_fixpoint
def Zdr (v0_ : Zo) (v1_ : Zh) : Option (Zh) :=
 Zcb v0_ 0 v1_.fbad v1_.fcons v1_.flocal
 partial_fixpoint
def Zcb (v0_ : Zo) (x_7 : Nat) (Z1 : Bool) (Zk : (List (ByteArray × Int))) (Zv : (List (ByteArray × Int))) : Option (Zh) :=
 if (decide (((x_7 : Nat) : Int) < ((v0_.fAlts.length : Nat) : Int))) = true then
 (v0_.fAlts[x_7]?) >>= fun x58 =>
 if (x58.fOp == 1) = true then
 ZcG (Zh.mk Zk Zv Z1) x58.fName ((x58.fVars.length : Nat) : Int) >>= fun r66 =>
 Zce v0_ x_7 x58 r66.fbad r66.fcons r66.flocal
 else
 Zce v0_ x_7 x58 Z1 Zk Zv
 else
 some (Zh.mk Zk Zv Z1)
 partial_fixpoint
def Zce (v0_ : Zo) (x_7 : Nat) (x58 : Zi) (Z1 : Bool) (Zk : (List (ByteArray × Int))) (Zv : (List (ByteArray × Int))) : Option (Zh) :=
 ZaR x58.fVars (Zh.mk Zk Zv Z1) x58 >>= fun r63 =>
 Zcb v0_ (x_7 + 1) r63.fbad r63.fcons r63.flocal
 partial_fixpoint
def ZaR (l : (List ByteArray)) (g2_c0 : Zh) (g2_c1 : Zi) : Option (Zh) :=
 Zav l 0 g2_c0 g2_c0.flocal g2_c1 l
 partial_fixpoint
def Zav (l : (List ByteArray)) (ZaS : Nat) (g2_c0 : Zh) (Zk : (List (ByteArray × Int))) (g2_c1 : Zi) (ZF : (List ByteArray)) : Option (Zh) :=
 (match ZF with
 | x24 :: Zeb =>
 Zcf Zk 0 x24 >>= fun r27 =>
 Zav l (ZaS + 1) g2_c0 (ZcQ Zk x24 (IntKind.i64.wrap (r27.1 + 1))) g2_c1 Zeb
 | [] =>
 ZcS (Zh.mk g2_c0.fcons Zk g2_c0.fbad) g2_c1 >>= fun r28 =>
 Zah l 0 r28 r28.flocal g2_c1 l)
 partial_fixpoint
def ZcS (v0_ : Zh) (v1_ : Zi) : Option (Zh) :=
 ZbF v0_ v1_.fBody >>= fun r1 =>
 some r1
 partial_fixpoint
def ZcL (v0_ : Zo) (v1_ : Zh) : Option (Zh) :=
 Zca v0_ 0 v1_.fbad v1_.fcons v1_.flocal v0_.fBinds
 partial_fixpoint
def Zca (v0_ : Zo) (x_7 : Nat) (Z1 : Bool) (Zk : (List (ByteArray × Int))) (Zv : (List (ByteArray × Int))) (ZcZ : (List Zc)) : Option (Zh) :=
 (match ZcZ with
 | x11 :: Zo9 =>
 Zbq (Zh.mk Zk Zv Z1) x11 false >>= fun r14 =>
 Zca v0_ (x_7 + 1) r14.fbad r14.fcons r14.flocal Zo9
 | [] =>
 some (Zh.mk Zk Zv Z1))
 partial_fixpoint
def ZcO (r70 : ((List ByteArray))) (e : Zo) (ZK : Bool) (ZJ : (List (ByteArray × Int))) (Zp : (List (ByteArray × Int))) : Option (Zh) :=
 Za1 r70 (Zh.mk ZJ Zp ZK) e >>= fun r78 =>
 some r78
 partial_fixpoint
def Za1 (l : (List ByteArray)) (g2_c0 : Zh) (g2_c1 : Zo) : Option (Zh) :=
 ZaA l 0 g2_c0 g2_c0.flocal g2_c1 l
 partial_fixpoint
def ZaA (l : (List ByteArray)) (ZaS : Nat) (g2_c0 : Zh) (Zk : (List (ByteArray × Int))) (g2_c1 : Zo) (ZF : (List ByteArray)) : Option (Zh) :=
 (match ZF with
 | x24 :: Zeb =>
 Zcf Zk 0 x24 >>= fun r27 =>
 ZaA l (ZaS + 1) g2_c0 (ZcQ Zk x24 (IntKind.i64.wrap (r27.1 + 1))) g2_c1 Zeb
 | [] =>
 Zds (Zh.mk g2_c0.fcons Zk g2_c0.fbad) g2_c1 >>= fun r28 =>
 Zal l 0 r28 r28.flocal g2_c1 l)
 partial_fixpoint
def Zds (v0_ : Zh) (v1_ : Zo) : Option (Zh) :=
 (ixI v1_.fKids 0) >>= fun x3 =>
 ZbF v0_ x3 >>= fun r4 =>
 some r4
 partial_fixpoint
def Za2 (l : (List ByteArray)) (g2_c0 : Zo) (g2_c1 : Zh) : Option (Zh) :=
 ZaB l 0 g2_c0 g2_c1 g2_c1.flocal l
 partial_fixpoint
def ZaB (l : (List ByteArray)) (ZaS : Nat) (g2_c0 : Zo) (g2_c1 : Zh) (Zv : (List (ByteArray × Int))) (ZF : (List ByteArray)) : Option (Zh) :=
 (match ZF with
 | x24 :: Zeb =>
 Zcf Zv 0 x24 >>= fun r27 =>
 ZaB l (ZaS + 1) g2_c0 g2_c1 (ZcQ Zv x24 (IntKind.i64.wrap (r27.1 + 1))) Zeb
 | [] =>
 ZcL g2_c0 (Zh.mk g2_c1.fcons Zv g2_c1.fbad) >>= fun r28 =>
 Zan l 0 g2_c0 r28 r28.flocal l)
 partial_fixpoint
end
def Zbq.M (c : Zh) (b : Zc) (top : Bool) (r : Zh) : Prop :=
 Zn Tryz.prog 52 [.ptr 1000 0, .agg [.v (.string b.fName), .v (.int .i64 b.fOp), .sl (b.fFree.map c_S), .sl (b.fParams.map c_S), .v (.int .i64 b.fBody.fOp), .v (.string b.fBody.fName), .sl (b.fBody.fArgs.map Zq.cells), .v (.bool b.fBody.fRec), .sl (b.fBody.fBinds.map Zc.cells), .sl (b.fBody.fKids.map Zo.cells), .sl (b.fBody.fAlts.map Zi.cells)], .c none (.v (.bool top))] [(1000, [(none, .rf 1001), (none, .rf 1002), (none, .v (.bool c.fbad))]), (1001, [(none, .ob 165 (c.fcons.map (Zz c_S Zm)))]), (1002, [(none, .ob 167 (c.flocal.map (Zz c_S Zm)))])] (fun d b => d = .tup [] ∧ b = [(1000, [(none, .rf 1001), (none, .rf 1002), (none, .v (.bool r.fbad))]), (1001, [(none, .ob 165 (r.fcons.map (Zz c_S Zm)))]), (1002, [(none, .ob 167 (r.flocal.map (Zz c_S Zm)))])])
def Zbh.M (top : Bool) (b : Zc) (ZK : Bool) (ZJ : (List (ByteArray × Int))) (Zp : (List (ByteArray × Int))) (r : Zh) : Prop :=
 AWP Tryz.prog 91 (Code.sub (Zt Tryz.f52) [1, 1]) (Code.cont Tryz.prog 91 (Zt Tryz.f52) [1, 1] (Zbl tab Tryz.f52.results (Zbo (.tup []) [(1000, [(none, .rf 1001), (none, .rf 1002), (none, .v (.bool r.fbad))]), (1001, [(none, .ob 165 (r.fcons.map (Zz c_S Zm)))]), (1002, [(none, .ob 167 (r.flocal.map (Zz c_S Zm)))])]))) ⟨[(2, .c none (.v (.bool top))), (3, .ptr 3 0), (4, .ptr 4 0)], [(3, [(none, .pt 1000 0)]), (4, [(none, .v (.string b.fName)), (none, .v (.int .i64 b.fOp)), (none, .sl (b.fFree.map c_S)), (none, .sl (b.fParams.map c_S)), (none, .v (.int .i64 b.fBody.fOp)), (none, .v (.string b.fBody.fName)), (none, .sl (b.fBody.fArgs.map Zq.cells)), (none, .v (.bool b.fBody.fRec)), (none, .sl (b.fBody.fBinds.map Zc.cells)), (none, .sl (b.fBody.fKids.map Zo.cells)), (none, .sl (b.fBody.fAlts.map Zi.cells))]), (1000, [(none, .rf 1001), (none, .rf 1002), (none, .v (.bool ZK))]), (1001, [(none, .ob 165 (ZJ.map (Zz c_S Zm)))]), (1002, [(none, .ob 167 (Zp.map (Zz c_S Zm)))])]⟩
def ZbV.M (top : Bool) (ZgS : (List ByteArray)) (r42 : ((List ByteArray))) (ZnX : Nat) (b : Zc) (r17 : (Zh)) (ZjS : (List ByteArray)) (r : Zh) : Prop :=
 ∀ Zk7 : List ByteArray, r42 = Zk7 ++ ZjS → ZnX = Zk7.length → r42.length ≤ maxLen → AWL Tryz.prog 91 (Code.sub (Zt Tryz.f52) [1, 1, 1, 1, 0, 1, 0, 0]) (Code.cont Tryz.prog 91 (Zt Tryz.f52) [1, 1, 1, 1, 0, 1, 0] (Zbl tab Tryz.f52.results (Zbo (.tup []) [(1000, [(none, .rf 1001), (none, .rf 1002), (none, .v (.bool r.fbad))]), (1001, [(none, .ob 165 (r.fcons.map (Zz c_S Zm)))]), (1002, [(none, .ob 167 (r.flocal.map (Zz c_S Zm)))])]))) ⟨[(2, .c none (.v (.bool top))), (3, .ptr 3 0), (4, .ptr 4 0), (6, .c (some (6, 9)) (.sl (ZgS.map c_S))), (55, .c (some (55, 9)) (.sl (r42.map c_S))), (56, .c none (.v (.int .i64 ((r42.length : Nat) : Int)))), (57, .c none (.v (.int .i64 ((ZnX : Nat) : Int))))], [(3, [(none, .pt 1000 0)]), (4, [(none, .v (.string b.fName)), (none, .v (.int .i64 b.fOp)), (none, .sl (b.fFree.map c_S)), (none, .sl (b.fParams.map c_S)), (none, .v (.int .i64 b.fBody.fOp)), (none, .v (.string b.fBody.fName)), (none, .sl (b.fBody.fArgs.map Zq.cells)), (none, .v (.bool b.fBody.fRec)), (none, .sl (b.fBody.fBinds.map Zc.cells)), (none, .sl (b.fBody.fKids.map Zo.cells)), (none, .sl (b.fBody.fAlts.map Zi.cells))]), (1000, [(none, .rf 1001), (none, .rf 1002), (none, .v (.bool r17.fbad))]), (1001, [(none, .ob 165 (r17.fcons.map (Zz c_S Zm)))]), (1002, [(none, .ob 167 (r17.flocal.map (Zz c_S Zm)))])]⟩
def Zak.M (l : (List ByteArray)) (g2_c0 : Zh) (g2_c1 : Zc) (r : Zh) : Prop :=
 Zn Tryz.prog 78 [.c none (.rf 1003), .c none (.sl (l.map c_S)), .c none (.cl 86 [] [.pt 1000 0, .pt 1004 0])] [(1000, [(none, .pt 1001 0)]), (1001, [(none, .rf 1002), (none, .rf 1003), (none, .v (.bool g2_c0.fbad))]), (1002, [(none, .ob 165 (g2_c0.fcons.map (Zz c_S Zm)))]), (1003, [(none, .ob 167 (g2_c0.flocal.map (Zz c_S Zm)))]), (1004, [(none, .v (.string g2_c1.fName)), (none, .v (.int .i64 g2_c1.fOp)), (none, .sl (g2_c1.fFree.map c_S)), (none, .sl (g2_c1.fParams.map c_S)), (none, .v (.int .i64 g2_c1.fBody.fOp)), (none, .v (.string g2_c1.fBody.fName)), (none, .sl (g2_c1.fBody.fArgs.map Zq.cells)), (none, .v (.bool g2_c1.fBody.fRec)), (none, .sl (g2_c1.fBody.fBinds.map Zc.cells)), (none, .sl (g2_c1.fBody.fKids.map Zo.cells)), (none, .sl (g2_c1.fBody.fAlts.map Zi.cells))])] (fun d b => d = .tup [] ∧ b = [(1000, [(none, .pt 1001 0)]), (1001, [(none, .rf 1002), (none, .rf 1003), (none, .v (.bool r.fbad))]), (1002, [(none, .ob 165 (r.fcons.map (Zz c_S Zm)))]), (1003, [(none, .ob 167 (r.flocal.map (Zz c_S Zm)))]), (1004, [(none, .v (.string g2_c1.fName)), (none, .v (.int .i64 g2_c1.fOp)), (none, .sl (g2_c1.fFree.map c_S)), (none, .sl (g2_c1.fParams.map c_S)), (none, .v (.int .i64 g2_c1.fBody.fOp)), (none, .v (.string g2_c1.fBody.fName)), (none, .sl (g2_c1.fBody.fArgs.map Zq.cells)), (none, .v (.bool g2_c1.fBody.fRec)), (none, .sl (g2_c1.fBody.fBinds.map Zc.cells)), (none, .sl (g2_c1.fBody.fKids.map Zo.cells)), (none, .sl (g2_c1.fBody.fAlts.map Zi.cells))])])
def ZZ.M (l : (List ByteArray)) (ZaS : Nat) (g2_c0 : Zh) (Zk : (List (ByteArray × Int))) (g2_c1 : Zc) (ZF : (List ByteArray)) (r : Zh) : Prop :=
 ∀ Zag : List ByteArray, l = Zag ++ ZF → ZaS = Zag.length → l.length ≤ maxLen → AWL Tryz.prog 34 (Code.sub (Zt Tryz.f78) [0, 1, 0, 0]) (Code.cont Tryz.prog 34 (Zt Tryz.f78) [0, 1, 0] (Zbl tab Tryz.f78.results (Zbo (.tup []) [(1000, [(none, .pt 1001 0)]), (1001, [(none, .rf 1002), (none, .rf 1003), (none, .v (.bool r.fbad))]), (1002, [(none, .ob 165 (r.fcons.map (Zz c_S Zm)))]), (1003, [(none, .ob 167 (r.flocal.map (Zz c_S Zm)))]), (1004, [(none, .v (.string g2_c1.fName)), (none, .v (.int .i64 g2_c1.fOp)), (none, .sl (g2_c1.fFree.map c_S)), (none, .sl (g2_c1.fParams.map c_S)), (none, .v (.int .i64 g2_c1.fBody.fOp)), (none, .v (.string g2_c1.fBody.fName)), (none, .sl (g2_c1.fBody.fArgs.map Zq.cells)), (none, .v (.bool g2_c1.fBody.fRec)), (none, .sl (g2_c1.fBody.fBinds.map Zc.cells)), (none, .sl (g2_c1.fBody.fKids.map Zo.cells)), (none, .sl (g2_c1.fBody.fAlts.map Zi.cells))])]))) ⟨[(0, .c none (.rf 1003)), (1, .c none (.sl (l.map c_S))), (2, .c none (.cl 86 [] [.pt 1000 0, .pt 1004 0])), (10, .c none (.sl (l.map c_S))), (11, .c none (.v (.int .i64 ((l.length : Nat) : Int)))), (12, .c none (.v (.int .i64 ((ZaS : Nat) : Int))))], [(1000, [(none, .pt 1001 0)]), (1001, [(none, .rf 1002), (none, .rf 1003), (none, .v (.bool g2_c0.fbad))]), (1002, [(none, .ob 165 (g2_c0.fcons.map (Zz c_S Zm)))]), (1003, [(none, .ob 167 (Zk.map (Zz c_S Zm)))]), (1004, [(none, .v (.string g2_c1.fName)), (none, .v (.int .i64 g2_c1.fOp)), (none, .sl (g2_c1.fFree.map c_S)), (none, .sl (g2_c1.fParams.map c_S)), (none, .v (.int .i64 g2_c1.fBody.fOp)), (none, .v (.string g2_c1.fBody.fName)), (none, .sl (g2_c1.fBody.fArgs.map Zq.cells)), (none, .v (.bool g2_c1.fBody.fRec)), (none, .sl (g2_c1.fBody.fBinds.map Zc.cells)), (none, .sl (g2_c1.fBody.fKids.map Zo.cells)), (none, .sl (g2_c1.fBody.fAlts.map Zi.cells))])]⟩
def Zbj.M (v0_ : Zh) (v1_ : Zc) (r : Zh) : Prop :=
 Zn Tryz.prog 86 [.ptr 1000 0, .ptr 1004 0] [(1000, [(none, .pt 1001 0)]), (1001, [(none, .rf 1002), (none, .rf 1003), (none, .v (.bool v0_.fbad))]), (1002, [(none, .ob 165 (v0_.fcons.map (Zz c_S Zm)))]), (1003, [(none, .ob 167 (v0_.flocal.map (Zz c_S Zm)))]), (1004, [(none, .v (.string v1_.fName)), (none, .v (.int .i64 v1_.fOp)), (none, .sl (v1_.fFree.map c_S)), (none, .sl (v1_.fParams.map c_S)), (none, .v (.int .i64 v1_.fBody.fOp)), (none, .v (.string v1_.fBody.fName)), (none, .sl (v1_.fBody.fArgs.map Zq.cells)), (none, .v (.bool v1_.fBody.fRec)), (none, .sl (v1_.fBody.fBinds.map Zc.cells)), (none, .sl (v1_.fBody.fKids.map Zo.cells)), (none, .sl (v1_.fBody.fAlts.map Zi.cells))])] (fun d b => d = .tup [] ∧ b = [(1000, [(none, .pt 1001 0)]), (1001, [(none, .rf 1002), (none, .rf 1003), (none, .v (.bool r.fbad))]), (1002, [(none, .ob 165 (r.fcons.map (Zz c_S Zm)))]), (1003, [(none, .ob 167 (r.flocal.map (Zz c_S Zm)))]), (1004, [(none, .v (.string v1_.fName)), (none, .v (.int .i64 v1_.fOp)), (none, .sl (v1_.fFree.map c_S)), (none, .sl (v1_.fParams.map c_S)), (none, .v (.int .i64 v1_.fBody.fOp)), (none, .v (.string v1_.fBody.fName)), (none, .sl (v1_.fBody.fArgs.map Zq.cells)), (none, .v (.bool v1_.fBody.fRec)), (none, .sl (v1_.fBody.fBinds.map Zc.cells)), (none, .sl (v1_.fBody.fKids.map Zo.cells)), (none, .sl (v1_.fBody.fAlts.map Zi.cells))])])
def ZbF.M (c : Zh) (e : Zo) (r : Zh) : Prop :=
 Zn Tryz.prog 87 [.ptr 1000 0, .agg [.v (.int .i64 e.fOp), .v (.string e.fName), .sl (e.fArgs.map Zq.cells), .v (.bool e.fRec), .sl (e.fBinds.map Zc.cells), .sl (e.fKids.map Zo.cells), .sl (e.fAlts.map Zi.cells)]] [(1000, [(none, .rf 1001), (none, .rf 1002), (none, .v (.bool c.fbad))]), (1001, [(none, .ob 165 (c.fcons.map (Zz c_S Zm)))]), (1002, [(none, .ob 167 (c.flocal.map (Zz c_S Zm)))])] (fun d b => d = .tup [] ∧ b = [(1000, [(none, .rf 1001), (none, .rf 1002), (none, .v (.bool r.fbad))]), (1001, [(none, .ob 165 (r.fcons.map (Zz c_S Zm)))]), (1002, [(none, .ob 167 (r.flocal.map (Zz c_S Zm)))])])
def ZbA.M (e : Zo) (ZoP : Nat) (ZK : Bool) (ZJ : (List (ByteArray × Int))) (Zp : (List (ByteArray × Int))) (Zj7 : (List Zq)) (r : Zh) : Prop :=
 ∀ ZkL : List Zq, e.fArgs = ZkL ++ Zj7 → ZoP = ZkL.length → e.fArgs.length ≤ maxLen → AWL Tryz.prog 104 (Code.sub (Zt Tryz.f87) [1, 1, 1, 0, 1, 0, 0]) (Code.cont Tryz.prog 104 (Zt Tryz.f87) [1, 1, 1, 0, 1, 0] (Zbl tab Tryz.f87.results (Zbo (.tup []) [(1000, [(none, .rf 1001), (none, .rf 1002), (none, .v (.bool r.fbad))]), (1001, [(none, .ob 165 (r.fcons.map (Zz c_S Zm)))]), (1002, [(none, .ob 167 (r.flocal.map (Zz c_S Zm)))])]))) ⟨[(2, .ptr 2 0), (3, .ptr 3 0), (17, .c none (.sl (e.fArgs.map Zq.cells))), (18, .c none (.v (.int .i64 ((e.fArgs.length : Nat) : Int)))), (19, .c none (.v (.int .i64 ((ZoP : Nat) : Int))))], [(2, [(none, .pt 1000 0)]), (3, [(none, .v (.int .i64 e.fOp)), (none, .v (.string e.fName)), (none, .sl (e.fArgs.map Zq.cells)), (none, .v (.bool e.fRec)), (none, .sl (e.fBinds.map Zc.cells)), (none, .sl (e.fKids.map Zo.cells)), (none, .sl (e.fAlts.map Zi.cells))]), (1000, [(none, .rf 1001), (none, .rf 1002), (none, .v (.bool ZK))]), (1001, [(none, .ob 165 (ZJ.map (Zz c_S Zm)))]), (1002, [(none, .ob 167 (Zp.map (Zz c_S Zm)))])]⟩
def Za3.M (l : (List ByteArray)) (g2_c0 : Zo) (g2_c1 : Zh) (r : Zh) : Prop :=
 Zn Tryz.prog 78 [.c none (.rf 1004), .c none (.sl (l.map c_S)), .c none (.cl 117 [] [.pt 1000 0, .pt 1001 0])] [(1000, [(none, .v (.int .i64 g2_c0.fOp)), (none, .v (.string g2_c0.fName)), (none, .sl (g2_c0.fArgs.map Zq.cells)), (none, .v (.bool g2_c0.fRec)), (none, .sl (g2_c0.fBinds.map Zc.cells)), (none, .sl (g2_c0.fKids.map Zo.cells)), (none, .sl (g2_c0.fAlts.map Zi.cells))]), (1001, [(none, .pt 1002 0)]), (1002, [(none, .rf 1003), (none, .rf 1004), (none, .v (.bool g2_c1.fbad))]), (1003, [(none, .ob 165 (g2_c1.fcons.map (Zz c_S Zm)))]), (1004, [(none, .ob 167 (g2_c1.flocal.map (Zz c_S Zm)))])] (fun d b => d = .tup [] ∧ b = [(1000, [(none, .v (.int .i64 g2_c0.fOp)), (none, .v (.string g2_c0.fName)), (none, .sl (g2_c0.fArgs.map Zq.cells)), (none, .v (.bool g2_c0.fRec)), (none, .sl (g2_c0.fBinds.map Zc.cells)), (none, .sl (g2_c0.fKids.map Zo.cells)), (none, .sl (g2_c0.fAlts.map Zi.cells))]), (1001, [(none, .pt 1002 0)]), (1002, [(none, .rf 1003), (none, .rf 1004), (none, .v (.bool r.fbad))]), (1003, [(none, .ob 165 (r.fcons.map (Zz c_S Zm)))]), (1004, [(none, .ob 167 (r.flocal.map (Zz c_S Zm)))])])
def Zaz.M (l : (List ByteArray)) (ZaS : Nat) (g2_c0 : Zo) (g2_c1 : Zh) (Zv : (List (ByteArray × Int))) (ZF : (List ByteArray)) (r : Zh) : Prop :=
 ∀ Zag : List ByteArray, l = Zag ++ ZF → ZaS = Zag.length → l.length ≤ maxLen → AWL Tryz.prog 34 (Code.sub (Zt Tryz.f78) [0, 1, 0, 0]) (Code.cont Tryz.prog 34 (Zt Tryz.f78) [0, 1, 0] (Zbl tab Tryz.f78.results (Zbo (.tup []) [(1000, [(none, .v (.int .i64 g2_c0.fOp)), (none, .v (.string g2_c0.fName)), (none, .sl (g2_c0.fArgs.map Zq.cells)), (none, .v (.bool g2_c0.fRec)), (none, .sl (g2_c0.fBinds.map Zc.cells)), (none, .sl (g2_c0.fKids.map Zo.cells)), (none, .sl (g2_c0.fAlts.map Zi.cells))]), (1001, [(none, .pt 1002 0)]), (1002, [(none, .rf 1003), (none, .rf 1004), (none, .v (.bool r.fbad))]), (1003, [(none, .ob 165 (r.fcons.map (Zz c_S Zm)))]), (1004, [(none, .ob 167 (r.flocal.map (Zz c_S Zm)))])]))) ⟨[(0, .c none (.rf 1004)), (1, .c none (.sl (l.map c_S))), (2, .c none (.cl 117 [] [.pt 1000 0, .pt 1001 0])), (10, .c none (.sl (l.map c_S))), (11, .c none (.v (.int .i64 ((l.length : Nat) : Int)))), (12, .c none (.v (.int .i64 ((ZaS : Nat) : Int))))], [(1000, [(none, .v (.int .i64 g2_c0.fOp)), (none, .v (.string g2_c0.fName)), (none, .sl (g2_c0.fArgs.map Zq.cells)), (none, .v (.bool g2_c0.fRec)), (none, .sl (g2_c0.fBinds.map Zc.cells)), (none, .sl (g2_c0.fKids.map Zo.cells)), (none, .sl (g2_c0.fAlts.map Zi.cells))]), (1001, [(none, .pt 1002 0)]), (1002, [(none, .rf 1003), (none, .rf 1004), (none, .v (.bool g2_c1.fbad))]), (1003, [(none, .ob 165 (g2_c1.fcons.map (Zz c_S Zm)))]), (1004, [(none, .ob 167 (Zv.map (Zz c_S Zm)))])]⟩
def Zdr.M (v0_ : Zo) (v1_ : Zh) (r : Zh) : Prop :=
 Zn Tryz.prog 117 [.ptr 1000 0, .ptr 1001 0] [(1000, [(none, .v (.int .i64 v0_.fOp)), (none, .v (.string v0_.fName)), (none, .sl (v0_.fArgs.map Zq.cells)), (none, .v (.bool v0_.fRec)), (none, .sl (v0_.fBinds.map Zc.cells)), (none, .sl (v0_.fKids.map Zo.cells)), (none, .sl (v0_.fAlts.map Zi.cells))]), (1001, [(none, .pt 1002 0)]), (1002, [(none, .rf 1003), (none, .rf 1004), (none, .v (.bool v1_.fbad))]), (1003, [(none, .ob 165 (v1_.fcons.map (Zz c_S Zm)))]), (1004, [(none, .ob 167 (v1_.flocal.map (Zz c_S Zm)))])] (fun d b => d = .tup [] ∧ b = [(1000, [(none, .v (.int .i64 v0_.fOp)), (none, .v (.string v0_.fName)), (none, .sl (v0_.fArgs.map Zq.cells)), (none, .v (.bool v0_.fRec)), (none, .sl (v0_.fBinds.map Zc.cells)), (none, .sl (v0_.fKids.map Zo.cells)), (none, .sl (v0_.fAlts.map Zi.cells))]), (1001, [(none, .pt 1002 0)]), (1002, [(none, .rf 1003), (none, .rf 1004), (none, .v (.bool r.fbad))]), (1003, [(none, .ob 165 (r.fcons.map (Zz c_S Zm)))]), (1004, [(none, .ob 167 (r.flocal.map (Zz c_S Zm)))])])
def Zcb.M (v0_ : Zo) (x_7 : Nat) (Z1 : Bool) (Zk : (List (ByteArray × Int))) (Zv : (List (ByteArray × Int))) (r : Zh) : Prop :=
 v0_.fAlts.length ≤ maxLen → AWL Tryz.prog 30 (Code.sub (Zt Tryz.f117) [1, 0, 0]) (Code.cont Tryz.prog 30 (Zt Tryz.f117) [1, 0] (Zbl tab Tryz.f117.results (Zbo (.tup []) [(1000, [(none, .v (.int .i64 v0_.fOp)), (none, .v (.string v0_.fName)), (none, .sl (v0_.fArgs.map Zq.cells)), (none, .v (.bool v0_.fRec)), (none, .sl (v0_.fBinds.map Zc.cells)), (none, .sl (v0_.fKids.map Zo.cells)), (none, .sl (v0_.fAlts.map Zi.cells))]), (1001, [(none, .pt 1002 0)]), (1002, [(none, .rf 1003), (none, .rf 1004), (none, .v (.bool r.fbad))]), (1003, [(none, .ob 165 (r.fcons.map (Zz c_S Zm)))]), (1004, [(none, .ob 167 (r.flocal.map (Zz c_S Zm)))])]))) ⟨[(1, .ptr 1001 0), (5, .c none (.sl (v0_.fAlts.map Zi.cells))), (6, .c none (.v (.int .i64 ((v0_.fAlts.length : Nat) : Int)))), (7, .c none (.v (.int .i64 ((x_7 : Nat) : Int))))], [(1000, [(none, .v (.int .i64 v0_.fOp)), (none, .v (.string v0_.fName)), (none, .sl (v0_.fArgs.map Zq.cells)), (none, .v (.bool v0_.fRec)), (none, .sl (v0_.fBinds.map Zc.cells)), (none, .sl (v0_.fKids.map Zo.cells)), (none, .sl (v0_.fAlts.map Zi.cells))]), (1001, [(none, .pt 1002 0)]), (1002, [(none, .rf 1003), (none, .rf 1004), (none, .v (.bool Z1))]), (1003, [(none, .ob 165 (Zk.map (Zz c_S Zm)))]), (1004, [(none, .ob 167 (Zv.map (Zz c_S Zm)))])]⟩
def Zce.M (v0_ : Zo) (x_7 : Nat) (x58 : Zi) (Z1 : Bool) (Zk : (List (ByteArray × Int))) (Zv : (List (ByteArray × Int))) (r : Zh) : Prop :=
 v0_.fAlts.length ≤ maxLen → x_7 < v0_.fAlts.length → AWP Tryz.prog 30 (Code.sub (Zt Tryz.f117) [1, 0, 0, 1, 1, 0, 0, 1, 1]) (Code.cont Tryz.prog 30 (Zt Tryz.f117) [1, 0, 0, 1, 1, 0, 0, 1, 1] (Zbl tab Tryz.f117.results (Zbo (.tup []) [(1000, [(none, .v (.int .i64 v0_.fOp)), (none, .v (.string v0_.fName)), (none, .sl (v0_.fArgs.map Zq.cells)), (none, .v (.bool v0_.fRec)), (none, .sl (v0_.fBinds.map Zc.cells)), (none, .sl (v0_.fKids.map Zo.cells)), (none, .sl (v0_.fAlts.map Zi.cells))]), (1001, [(none, .pt 1002 0)]), (1002, [(none, .rf 1003), (none, .rf 1004), (none, .v (.bool r.fbad))]), (1003, [(none, .ob 165 (r.fcons.map (Zz c_S Zm)))]), (1004, [(none, .ob 167 (r.flocal.map (Zz c_S Zm)))])]))) ⟨[(1, .ptr 1001 0), (3, .ptr 3 0), (5, .c none (.sl (v0_.fAlts.map Zi.cells))), (6, .c none (.v (.int .i64 ((v0_.fAlts.length : Nat) : Int)))), (7, .c none (.v (.int .i64 ((x_7 : Nat) : Int))))], [(3, [(none, .v (.int .i64 x58.fOp)), (none, .v (.string x58.fName)), (none, .v (.int .i64 x58.fN)), (none, .sl (x58.fVars.map c_S)), (none, .v (.int .i64 x58.fBody.fOp)), (none, .v (.string x58.fBody.fName)), (none, .sl (x58.fBody.fArgs.map Zq.cells)), (none, .v (.bool x58.fBody.fRec)), (none, .sl (x58.fBody.fBinds.map Zc.cells)), (none, .sl (x58.fBody.fKids.map Zo.cells)), (none, .sl (x58.fBody.fAlts.map Zi.cells))]), (1000, [(none, .v (.int .i64 v0_.fOp)), (none, .v (.string v0_.fName)), (none, .sl (v0_.fArgs.map Zq.cells)), (none, .v (.bool v0_.fRec)), (none, .sl (v0_.fBinds.map Zc.cells)), (none, .sl (v0_.fKids.map Zo.cells)), (none, .sl (v0_.fAlts.map Zi.cells))]), (1001, [(none, .pt 1002 0)]), (1002, [(none, .rf 1003), (none, .rf 1004), (none, .v (.bool Z1))]), (1003, [(none, .ob 165 (Zk.map (Zz c_S Zm)))]), (1004, [(none, .ob 167 (Zv.map (Zz c_S Zm)))])]⟩
def ZaR.M (l : (List ByteArray)) (g2_c0 : Zh) (g2_c1 : Zi) (r : Zh) : Prop :=
 Zn Tryz.prog 78 [.c none (.rf 1003), .c none (.sl (l.map c_S)), .c none (.cl 118 [] [.pt 1000 0, .pt 1004 0])] [(1000, [(none, .pt 1001 0)]), (1001, [(none, .rf 1002), (none, .rf 1003), (none, .v (.bool g2_c0.fbad))]), (1002, [(none, .ob 165 (g2_c0.fcons.map (Zz c_S Zm)))]), (1003, [(none, .ob 167 (g2_c0.flocal.map (Zz c_S Zm)))]), (1004, [(none, .v (.int .i64 g2_c1.fOp)), (none, .v (.string g2_c1.fName)), (none, .v (.int .i64 g2_c1.fN)), (none, .sl (g2_c1.fVars.map c_S)), (none, .v (.int .i64 g2_c1.fBody.fOp)), (none, .v (.string g2_c1.fBody.fName)), (none, .sl (g2_c1.fBody.fArgs.map Zq.cells)), (none, .v (.bool g2_c1.fBody.fRec)), (none, .sl (g2_c1.fBody.fBinds.map Zc.cells)), (none, .sl (g2_c1.fBody.fKids.map Zo.cells)), (none, .sl (g2_c1.fBody.fAlts.map Zi.cells))])] (fun d b => d = .tup [] ∧ b = [(1000, [(none, .pt 1001 0)]), (1001, [(none, .rf 1002), (none, .rf 1003), (none, .v (.bool r.fbad))]), (1002, [(none, .ob 165 (r.fcons.map (Zz c_S Zm)))]), (1003, [(none, .ob 167 (r.flocal.map (Zz c_S Zm)))]), (1004, [(none, .v (.int .i64 g2_c1.fOp)), (none, .v (.string g2_c1.fName)), (none, .v (.int .i64 g2_c1.fN)), (none, .sl (g2_c1.fVars.map c_S)), (none, .v (.int .i64 g2_c1.fBody.fOp)), (none, .v (.string g2_c1.fBody.fName)), (none, .sl (g2_c1.fBody.fArgs.map Zq.cells)), (none, .v (.bool g2_c1.fBody.fRec)), (none, .sl (g2_c1.fBody.fBinds.map Zc.cells)), (none, .sl (g2_c1.fBody.fKids.map Zo.cells)), (none, .sl (g2_c1.fBody.fAlts.map Zi.cells))])])
def Zav.M (l : (List ByteArray)) (ZaS : Nat) (g2_c0 : Zh) (Zk : (List (ByteArray × Int))) (g2_c1 : Zi) (ZF : (List ByteArray)) (r : Zh) : Prop :=
 ∀ Zag : List ByteArray, l = Zag ++ ZF → ZaS = Zag.length → l.length ≤ maxLen → AWL Tryz.prog 34 (Code.sub (Zt Tryz.f78) [0, 1, 0, 0]) (Code.cont Tryz.prog 34 (Zt Tryz.f78) [0, 1, 0] (Zbl tab Tryz.f78.results (Zbo (.tup []) [(1000, [(none, .pt 1001 0)]), (1001, [(none, .rf 1002), (none, .rf 1003), (none, .v (.bool r.fbad))]), (1002, [(none, .ob 165 (r.fcons.map (Zz c_S Zm)))]), (1003, [(none, .ob 167 (r.flocal.map (Zz c_S Zm)))]), (1004, [(none, .v (.int .i64 g2_c1.fOp)), (none, .v (.string g2_c1.fName)), (none, .v (.int .i64 g2_c1.fN)), (none, .sl (g2_c1.fVars.map c_S)), (none, .v (.int .i64 g2_c1.fBody.fOp)), (none, .v (.string g2_c1.fBody.fName)), (none, .sl (g2_c1.fBody.fArgs.map Zq.cells)), (none, .v (.bool g2_c1.fBody.fRec)), (none, .sl (g2_c1.fBody.fBinds.map Zc.cells)), (none, .sl (g2_c1.fBody.fKids.map Zo.cells)), (none, .sl (g2_c1.fBody.fAlts.map Zi.cells))])]))) ⟨[(0, .c none (.rf 1003)), (1, .c none (.sl (l.map c_S))), (2, .c none (.cl 118 [] [.pt 1000 0, .pt 1004 0])), (10, .c none (.sl (l.map c_S))), (11, .c none (.v (.int .i64 ((l.length : Nat) : Int)))), (12, .c none (.v (.int .i64 ((ZaS : Nat) : Int))))], [(1000, [(none, .pt 1001 0)]), (1001, [(none, .rf 1002), (none, .rf 1003), (none, .v (.bool g2_c0.fbad))]), (1002, [(none, .ob 165 (g2_c0.fcons.map (Zz c_S Zm)))]), (1003, [(none, .ob 167 (Zk.map (Zz c_S Zm)))]), (1004, [(none, .v (.int .i64 g2_c1.fOp)), (none, .v (.string g2_c1.fName)), (none, .v (.int .i64 g2_c1.fN)), (none, .sl (g2_c1.fVars.map c_S)), (none, .v (.int .i64 g2_c1.fBody.fOp)), (none, .v (.string g2_c1.fBody.fName)), (none, .sl (g2_c1.fBody.fArgs.map Zq.cells)), (none, .v (.bool g2_c1.fBody.fRec)), (none, .sl (g2_c1.fBody.fBinds.map Zc.cells)), (none, .sl (g2_c1.fBody.fKids.map Zo.cells)), (none, .sl (g2_c1.fBody.fAlts.map Zi.cells))])]⟩
def ZcS.M (v0_ : Zh) (v1_ : Zi) (r : Zh) : Prop :=
 Zn Tryz.prog 118 [.ptr 1000 0, .ptr 1004 0] [(1000, [(none, .pt 1001 0)]), (1001, [(none, .rf 1002), (none, .rf 1003), (none, .v (.bool v0_.fbad))]), (1002, [(none, .ob 165 (v0_.fcons.map (Zz c_S Zm)))]), (1003, [(none, .ob 167 (v0_.flocal.map (Zz c_S Zm)))]), (1004, [(none, .v (.int .i64 v1_.fOp)), (none, .v (.string v1_.fName)), (none, .v (.int .i64 v1_.fN)), (none, .sl (v1_.fVars.map c_S)), (none, .v (.int .i64 v1_.fBody.fOp)), (none, .v (.string v1_.fBody.fName)), (none, .sl (v1_.fBody.fArgs.map Zq.cells)), (none, .v (.bool v1_.fBody.fRec)), (none, .sl (v1_.fBody.fBinds.map Zc.cells)), (none, .sl (v1_.fBody.fKids.map Zo.cells)), (none, .sl (v1_.fBody.fAlts.map Zi.cells))])] (fun d b => d = .tup [] ∧ b = [(1000, [(none, .pt 1001 0)]), (1001, [(none, .rf 1002), (none, .rf 1003), (none, .v (.bool r.fbad))]), (1002, [(none, .ob 165 (r.fcons.map (Zz c_S Zm)))]), (1003, [(none, .ob 167 (r.flocal.map (Zz c_S Zm)))]), (1004, [(none, .v (.int .i64 v1_.fOp)), (none, .v (.string v1_.fName)), (none, .v (.int .i64 v1_.fN)), (none, .sl (v1_.fVars.map c_S)), (none, .v (.int .i64 v1_.fBody.fOp)), (none, .v (.string v1_.fBody.fName)), (none, .sl (v1_.fBody.fArgs.map Zq.cells)), (none, .v (.bool v1_.fBody.fRec)), (none, .sl (v1_.fBody.fBinds.map Zc.cells)), (none, .sl (v1_.fBody.fKids.map Zo.cells)), (none, .sl (v1_.fBody.fAlts.map Zi.cells))])])
def ZcL.M (v0_ : Zo) (v1_ : Zh) (r : Zh) : Prop :=
 Zn Tryz.prog 114 [.ptr 1000 0, .ptr 1001 0] [(1000, [(none, .v (.int .i64 v0_.fOp)), (none, .v (.string v0_.fName)), (none, .sl (v0_.fArgs.map Zq.cells)), (none, .v (.bool v0_.fRec)), (none, .sl (v0_.fBinds.map Zc.cells)), (none, .sl (v0_.fKids.map Zo.cells)), (none, .sl (v0_.fAlts.map Zi.cells))]), (1001, [(none, .pt 1002 0)]), (1002, [(none, .rf 1003), (none, .rf 1004), (none, .v (.bool v1_.fbad))]), (1003, [(none, .ob 165 (v1_.fcons.map (Zz c_S Zm)))]), (1004, [(none, .ob 167 (v1_.flocal.map (Zz c_S Zm)))])] (fun d b => d = .tup [] ∧ b = [(1000, [(none, .v (.int .i64 v0_.fOp)), (none, .v (.string v0_.fName)), (none, .sl (v0_.fArgs.map Zq.cells)), (none, .v (.bool v0_.fRec)), (none, .sl (v0_.fBinds.map Zc.cells)), (none, .sl (v0_.fKids.map Zo.cells)), (none, .sl (v0_.fAlts.map Zi.cells))]), (1001, [(none, .pt 1002 0)]), (1002, [(none, .rf 1003), (none, .rf 1004), (none, .v (.bool r.fbad))]), (1003, [(none, .ob 165 (r.fcons.map (Zz c_S Zm)))]), (1004, [(none, .ob 167 (r.flocal.map (Zz c_S Zm)))])])
def Zca.M (v0_ : Zo) (x_7 : Nat) (Z1 : Bool) (Zk : (List (ByteArray × Int))) (Zv : (List (ByteArray × Int))) (ZcZ : (List Zc)) (r : Zh) : Prop :=
 ∀ Zd2 : List Zc, v0_.fBinds = Zd2 ++ ZcZ → x_7 = Zd2.length → v0_.fBinds.length ≤ maxLen → AWL Tryz.prog 15 (Code.sub (Zt Tryz.f114) [1, 0, 0]) (Code.cont Tryz.prog 15 (Zt Tryz.f114) [1, 0] (Zbl tab Tryz.f114.results (Zbo (.tup []) [(1000, [(none, .v (.int .i64 v0_.fOp)), (none, .v (.string v0_.fName)), (none, .sl (v0_.fArgs.map Zq.cells)), (none, .v (.bool v0_.fRec)), (none, .sl (v0_.fBinds.map Zc.cells)), (none, .sl (v0_.fKids.map Zo.cells)), (none, .sl (v0_.fAlts.map Zi.cells))]), (1001, [(none, .pt 1002 0)]), (1002, [(none, .rf 1003), (none, .rf 1004), (none, .v (.bool r.fbad))]), (1003, [(none, .ob 165 (r.fcons.map (Zz c_S Zm)))]), (1004, [(none, .ob 167 (r.flocal.map (Zz c_S Zm)))])]))) ⟨[(1, .ptr 1001 0), (5, .c none (.sl (v0_.fBinds.map Zc.cells))), (6, .c none (.v (.int .i64 ((v0_.fBinds.length : Nat) : Int)))), (7, .c none (.v (.int .i64 ((x_7 : Nat) : Int))))], [(1000, [(none, .v (.int .i64 v0_.fOp)), (none, .v (.string v0_.fName)), (none, .sl (v0_.fArgs.map Zq.cells)), (none, .v (.bool v0_.fRec)), (none, .sl (v0_.fBinds.map Zc.cells)), (none, .sl (v0_.fKids.map Zo.cells)), (none, .sl (v0_.fAlts.map Zi.cells))]), (1001, [(none, .pt 1002 0)]), (1002, [(none, .rf 1003), (none, .rf 1004), (none, .v (.bool Z1))]), (1003, [(none, .ob 165 (Zk.map (Zz c_S Zm)))]), (1004, [(none, .ob 167 (Zv.map (Zz c_S Zm)))])]⟩
def ZcO.M (r70 : ((List ByteArray))) (e : Zo) (ZK : Bool) (ZJ : (List (ByteArray × Int))) (Zp : (List (ByteArray × Int))) (r : Zh) : Prop :=
 e.fArgs.length ≤ maxLen → AWP Tryz.prog 104 (Code.sub (Zt Tryz.f87) [1, 1, 1, 1, 1, 0, 1, 1, 1, 1, 1, 0, 1, 1, 1, 1]) (Code.cont Tryz.prog 104 (Zt Tryz.f87) [1, 1, 1, 1, 1, 0, 1, 1, 1, 1, 1, 0, 1, 1, 1, 1] (Zbl tab Tryz.f87.results (Zbo (.tup []) [(1000, [(none, .rf 1001), (none, .rf 1002), (none, .v (.bool r.fbad))]), (1001, [(none, .ob 165 (r.fcons.map (Zz c_S Zm)))]), (1002, [(none, .ob 167 (r.flocal.map (Zz c_S Zm)))])]))) ⟨[(2, .ptr 2 0), (3, .ptr 3 0), (6, .c (some (6, 9)) (.sl (r70.map c_S)))], [(2, [(none, .pt 1000 0)]), (3, [(none, .v (.int .i64 e.fOp)), (none, .v (.string e.fName)), (none, .sl (e.fArgs.map Zq.cells)), (none, .v (.bool e.fRec)), (none, .sl (e.fBinds.map Zc.cells)), (none, .sl (e.fKids.map Zo.cells)), (none, .sl (e.fAlts.map Zi.cells))]), (1000, [(none, .rf 1001), (none, .rf 1002), (none, .v (.bool ZK))]), (1001, [(none, .ob 165 (ZJ.map (Zz c_S Zm)))]), (1002, [(none, .ob 167 (Zp.map (Zz c_S Zm)))])]⟩
def Za1.M (l : (List ByteArray)) (g2_c0 : Zh) (g2_c1 : Zo) (r : Zh) : Prop :=
 Zn Tryz.prog 78 [.c none (.rf 1003), .c none (.sl (l.map c_S)), .c none (.cl 115 [] [.pt 1000 0, .pt 1004 0])] [(1000, [(none, .pt 1001 0)]), (1001, [(none, .rf 1002), (none, .rf 1003), (none, .v (.bool g2_c0.fbad))]), (1002, [(none, .ob 165 (g2_c0.fcons.map (Zz c_S Zm)))]), (1003, [(none, .ob 167 (g2_c0.flocal.map (Zz c_S Zm)))]), (1004, [(none, .v (.int .i64 g2_c1.fOp)), (none, .v (.string g2_c1.fName)), (none, .sl (g2_c1.fArgs.map Zq.cells)), (none, .v (.bool g2_c1.fRec)), (none, .sl (g2_c1.fBinds.map Zc.cells)), (none, .sl (g2_c1.fKids.map Zo.cells)), (none, .sl (g2_c1.fAlts.map Zi.cells))])] (fun d b => d = .tup [] ∧ b = [(1000, [(none, .pt 1001 0)]), (1001, [(none, .rf 1002), (none, .rf 1003), (none, .v (.bool r.fbad))]), (1002, [(none, .ob 165 (r.fcons.map (Zz c_S Zm)))]), (1003, [(none, .ob 167 (r.flocal.map (Zz c_S Zm)))]), (1004, [(none, .v (.int .i64 g2_c1.fOp)), (none, .v (.string g2_c1.fName)), (none, .sl (g2_c1.fArgs.map Zq.cells)), (none, .v (.bool g2_c1.fRec)), (none, .sl (g2_c1.fBinds.map Zc.cells)), (none, .sl (g2_c1.fKids.map Zo.cells)), (none, .sl (g2_c1.fAlts.map Zi.cells))])])
def ZaA.M (l : (List ByteArray)) (ZaS : Nat) (g2_c0 : Zh) (Zk : (List (ByteArray × Int))) (g2_c1 : Zo) (ZF : (List ByteArray)) (r : Zh) : Prop :=
 ∀ Zag : List ByteArray, l = Zag ++ ZF → ZaS = Zag.length → l.length ≤ maxLen → AWL Tryz.prog 34 (Code.sub (Zt Tryz.f78) [0, 1, 0, 0]) (Code.cont Tryz.prog 34 (Zt Tryz.f78) [0, 1, 0] (Zbl tab Tryz.f78.results (Zbo (.tup []) [(1000, [(none, .pt 1001 0)]), (1001, [(none, .rf 1002), (none, .rf 1003), (none, .v (.bool r.fbad))]), (1002, [(none, .ob 165 (r.fcons.map (Zz c_S Zm)))]), (1003, [(none, .ob 167 (r.flocal.map (Zz c_S Zm)))]), (1004, [(none, .v (.int .i64 g2_c1.fOp)), (none, .v (.string g2_c1.fName)), (none, .sl (g2_c1.fArgs.map Zq.cells)), (none, .v (.bool g2_c1.fRec)), (none, .sl (g2_c1.fBinds.map Zc.cells)), (none, .sl (g2_c1.fKids.map Zo.cells)), (none, .sl (g2_c1.fAlts.map Zi.cells))])]))) ⟨[(0, .c none (.rf 1003)), (1, .c none (.sl (l.map c_S))), (2, .c none (.cl 115 [] [.pt 1000 0, .pt 1004 0])), (10, .c none (.sl (l.map c_S))), (11, .c none (.v (.int .i64 ((l.length : Nat) : Int)))), (12, .c none (.v (.int .i64 ((ZaS : Nat) : Int))))], [(1000, [(none, .pt 1001 0)]), (1001, [(none, .rf 1002), (none, .rf 1003), (none, .v (.bool g2_c0.fbad))]), (1002, [(none, .ob 165 (g2_c0.fcons.map (Zz c_S Zm)))]), (1003, [(none, .ob 167 (Zk.map (Zz c_S Zm)))]), (1004, [(none, .v (.int .i64 g2_c1.fOp)), (none, .v (.string g2_c1.fName)), (none, .sl (g2_c1.fArgs.map Zq.cells)), (none, .v (.bool g2_c1.fRec)), (none, .sl (g2_c1.fBinds.map Zc.cells)), (none, .sl (g2_c1.fKids.map Zo.cells)), (none, .sl (g2_c1.fAlts.map Zi.cells))])]⟩
def Zds.M (v0_ : Zh) (v1_ : Zo) (r : Zh) : Prop :=
 Zn Tryz.prog 115 [.ptr 1000 0, .ptr 1004 0] [(1000, [(none, .pt 1001 0)]), (1001, [(none, .rf 1002), (none, .rf 1003), (none, .v (.bool v0_.fbad))]), (1002, [(none, .ob 165 (v0_.fcons.map (Zz c_S Zm)))]), (1003, [(none, .ob 167 (v0_.flocal.map (Zz c_S Zm)))]), (1004, [(none, .v (.int .i64 v1_.fOp)), (none, .v (.string v1_.fName)), (none, .sl (v1_.fArgs.map Zq.cells)), (none, .v (.bool v1_.fRec)), (none, .sl (v1_.fBinds.map Zc.cells)), (none, .sl (v1_.fKids.map Zo.cells)), (none, .sl (v1_.fAlts.map Zi.cells))])] (fun d b => d = .tup [] ∧ b = [(1000, [(none, .pt 1001 0)]), (1001, [(none, .rf 1002), (none, .rf 1003), (none, .v (.bool r.fbad))]), (1002, [(none, .ob 165 (r.fcons.map (Zz c_S Zm)))]), (1003, [(none, .ob 167 (r.flocal.map (Zz c_S Zm)))]), (1004, [(none, .v (.int .i64 v1_.fOp)), (none, .v (.string v1_.fName)), (none, .sl (v1_.fArgs.map Zq.cells)), (none, .v (.bool v1_.fRec)), (none, .sl (v1_.fBinds.map Zc.cells)), (none, .sl (v1_.fKids.map Zo.cells)), (none, .sl (v1_.fAlts.map Zi.cells))])])
def Za2.M (l : (List ByteArray)) (g2_c0 : Zo) (g2_c1 : Zh) (r : Zh) : Prop :=
 Zn Tryz.prog 78 [.c none (.rf 1004), .c none (.sl (l.map c_S)), .c none (.cl 114 [] [.pt 1000 0, .pt 1001 0])] [(1000, [(none, .v (.int .i64 g2_c0.fOp)), (none, .v (.string g2_c0.fName)), (none, .sl (g2_c0.fArgs.map Zq.cells)), (none, .v (.bool g2_c0.fRec)), (none, .sl (g2_c0.fBinds.map Zc.cells)), (none, .sl (g2_c0.fKids.map Zo.cells)), (none, .sl (g2_c0.fAlts.map Zi.cells))]), (1001, [(none, .pt 1002 0)]), (1002, [(none, .rf 1003), (none, .rf 1004), (none, .v (.bool g2_c1.fbad))]), (1003, [(none, .ob 165 (g2_c1.fcons.map (Zz c_S Zm)))]), (1004, [(none, .ob 167 (g2_c1.flocal.map (Zz c_S Zm)))])] (fun d b => d = .tup [] ∧ b = [(1000, [(none, .v (.int .i64 g2_c0.fOp)), (none, .v (.string g2_c0.fName)), (none, .sl (g2_c0.fArgs.map Zq.cells)), (none, .v (.bool g2_c0.fRec)), (none, .sl (g2_c0.fBinds.map Zc.cells)), (none, .sl (g2_c0.fKids.map Zo.cells)), (none, .sl (g2_c0.fAlts.map Zi.cells))]), (1001, [(none, .pt 1002 0)]), (1002, [(none, .rf 1003), (none, .rf 1004), (none, .v (.bool r.fbad))]), (1003, [(none, .ob 165 (r.fcons.map (Zz c_S Zm)))]), (1004, [(none, .ob 167 (r.flocal.map (Zz c_S Zm)))])])
def ZaB.M (l : (List ByteArray)) (ZaS : Nat) (g2_c0 : Zo) (g2_c1 : Zh) (Zv : (List (ByteArray × Int))) (ZF : (List ByteArray)) (r : Zh) : Prop :=
 ∀ Zag : List ByteArray, l = Zag ++ ZF → ZaS = Zag.length → l.length ≤ maxLen → AWL Tryz.prog 34 (Code.sub (Zt Tryz.f78) [0, 1, 0, 0]) (Code.cont Tryz.prog 34 (Zt Tryz.f78) [0, 1, 0] (Zbl tab Tryz.f78.results (Zbo (.tup []) [(1000, [(none, .v (.int .i64 g2_c0.fOp)), (none, .v (.string g2_c0.fName)), (none, .sl (g2_c0.fArgs.map Zq.cells)), (none, .v (.bool g2_c0.fRec)), (none, .sl (g2_c0.fBinds.map Zc.cells)), (none, .sl (g2_c0.fKids.map Zo.cells)), (none, .sl (g2_c0.fAlts.map Zi.cells))]), (1001, [(none, .pt 1002 0)]), (1002, [(none, .rf 1003), (none, .rf 1004), (none, .v (.bool r.fbad))]), (1003, [(none, .ob 165 (r.fcons.map (Zz c_S Zm)))]), (1004, [(none, .ob 167 (r.flocal.map (Zz c_S Zm)))])]))) ⟨[(0, .c none (.rf 1004)), (1, .c none (.sl (l.map c_S))), (2, .c none (.cl 114 [] [.pt 1000 0, .pt 1001 0])), (10, .c none (.sl (l.map c_S))), (11, .c none (.v (.int .i64 ((l.length : Nat) : Int)))), (12, .c none (.v (.int .i64 ((ZaS : Nat) : Int))))], [(1000, [(none, .v (.int .i64 g2_c0.fOp)), (none, .v (.string g2_c0.fName)), (none, .sl (g2_c0.fArgs.map Zq.cells)), (none, .v (.bool g2_c0.fRec)), (none, .sl (g2_c0.fBinds.map Zc.cells)), (none, .sl (g2_c0.fKids.map Zo.cells)), (none, .sl (g2_c0.fAlts.map Zi.cells))]), (1001, [(none, .pt 1002 0)]), (1002, [(none, .rf 1003), (none, .rf 1004), (none, .v (.bool g2_c1.fbad))]), (1003, [(none, .ob 165 (g2_c1.fcons.map (Zz c_S Zm)))]), (1004, [(none, .ob 167 (Zv.map (Zz c_S Zm)))])]⟩
theorem ZkM : (∀ (c : Zh) (b : Zc) (top : Bool), ∀ r, Zbq c b top = some r → Zbq.M c b top r) ∧ (∀ (top : Bool) (b : Zc) (ZK : Bool) (ZJ : (List (ByteArray × Int))) (Zp : (List (ByteArray × Int))), ∀ r, Zbh top b ZK ZJ Zp = some r → Zbh.M top b ZK ZJ Zp r) ∧ (∀ (top : Bool) (ZgS : (List ByteArray)) (r42 : ((List ByteArray))) (ZnX : Nat) (b : Zc) (r17 : (Zh)) (ZjS : (List ByteArray)), ∀ r, ZbV top ZgS r42 ZnX b r17 ZjS = some r → ZbV.M top ZgS r42 ZnX b r17 ZjS r) ∧ (∀ (l : (List ByteArray)) (g2_c0 : Zh) (g2_c1 : Zc), ∀ r, Zak l g2_c0 g2_c1 = some r → Zak.M l g2_c0 g2_c1 r) ∧ (∀ (l : (List ByteArray)) (ZaS : Nat) (g2_c0 : Zh) (Zk : (List (ByteArray × Int))) (g2_c1 : Zc) (ZF : (List ByteArray)), ∀ r, ZZ l ZaS g2_c0 Zk g2_c1 ZF = some r → ZZ.M l ZaS g2_c0 Zk g2_c1 ZF r) ∧ (∀ (v0_ : Zh) (v1_ : Zc), ∀ r, Zbj v0_ v1_ = some r → Zbj.M v0_ v1_ r) ∧ (∀ (c : Zh) (e : Zo), ∀ r, ZbF c e = some r → ZbF.M c e r) ∧ (∀ (e : Zo) (ZoP : Nat) (ZK : Bool) (ZJ : (List (ByteArray × Int))) (Zp : (List (ByteArray × Int))) (Zj7 : (List Zq)), ∀ r, ZbA e ZoP ZK ZJ Zp Zj7 = some r → ZbA.M e ZoP ZK ZJ Zp Zj7 r) ∧ (∀ (l : (List ByteArray)) (g2_c0 : Zo) (g2_c1 : Zh), ∀ r, Za3 l g2_c0 g2_c1 = some r → Za3.M l g2_c0 g2_c1 r) ∧ (∀ (l : (List ByteArray)) (ZaS : Nat) (g2_c0 : Zo) (g2_c1 : Zh) (Zv : (List (ByteArray × Int))) (ZF : (List ByteArray)), ∀ r, Zaz l ZaS g2_c0 g2_c1 Zv ZF = some r → Zaz.M l ZaS g2_c0 g2_c1 Zv ZF r) ∧ (∀ (v0_ : Zo) (v1_ : Zh), ∀ r, Zdr v0_ v1_ = some r → Zdr.M v0_ v1_ r) ∧ (∀ (v0_ : Zo) (x_7 : Nat) (Z1 : Bool) (Zk : (List (ByteArray × Int))) (Zv : (List (ByteArray × Int))), ∀ r, Zcb v0_ x_7 Z1 Zk Zv = some r → Zcb.M v0_ x_7 Z1 Zk Zv r) ∧ (∀ (v0_ : Zo) (x_7 : Nat) (x58 : Zi) (Z1 : Bool) (Zk : (List (ByteArray × Int))) (Zv : (List (ByteArray × Int))), ∀ r, Zce v0_ x_7 x58 Z1 Zk Zv = some r → Zce.M v0_ x_7 x58 Z1 Zk Zv r) ∧ (∀ (l : (List ByteArray)) (g2_c0 : Zh) (g2_c1 : Zi), ∀ r, ZaR l g2_c0 g2_c1 = some r → ZaR.M l g2_c0 g2_c1 r) ∧ (∀ (l : (List ByteArray)) (ZaS : Nat) (g2_c0 : Zh) (Zk : (List (ByteArray × Int))) (g2_c1 : Zi) (ZF : (List ByteArray)), ∀ r, Zav l ZaS g2_c0 Zk g2_c1 ZF = some r → Zav.M l ZaS g2_c0 Zk g2_c1 ZF r) ∧ (∀ (v0_ : Zh) (v1_ : Zi), ∀ r, ZcS v0_ v1_ = some r → ZcS.M v0_ v1_ r) ∧ (∀ (v0_ : Zo) (v1_ : Zh), ∀ r, ZcL v0_ v1_ = some r → ZcL.M v0_ v1_ r) ∧ (∀ (v0_ : Zo) (x_7 : Nat) (Z1 : Bool) (Zk : (List (ByteArray × Int))) (Zv : (List (ByteArray × Int))) (ZcZ : (List Zc)), ∀ r, Zca v0_ x_7 Z1 Zk Zv ZcZ = some r → Zca.M v0_ x_7 Z1 Zk Zv ZcZ r) ∧ (∀ (r70 : ((List ByteArray))) (e : Zo) (ZK : Bool) (ZJ : (List (ByteArray × Int))) (Zp : (List (ByteArray × Int))), ∀ r, ZcO r70 e ZK ZJ Zp = some r → ZcO.M r70 e ZK ZJ Zp r) ∧ (∀ (l : (List ByteArray)) (g2_c0 : Zh) (g2_c1 : Zo), ∀ r, Za1 l g2_c0 g2_c1 = some r → Za1.M l g2_c0 g2_c1 r) ∧ (∀ (l : (List ByteArray)) (ZaS : Nat) (g2_c0 : Zh) (Zk : (List (ByteArray × Int))) (g2_c1 : Zo) (ZF : (List ByteArray)), ∀ r, ZaA l ZaS g2_c0 Zk g2_c1 ZF = some r → ZaA.M l ZaS g2_c0 Zk g2_c1 ZF r) ∧ (∀ (v0_ : Zh) (v1_ : Zo), ∀ r, Zds v0_ v1_ = some r → Zds.M v0_ v1_ r) ∧ (∀ (l : (List ByteArray)) (g2_c0 : Zo) (g2_c1 : Zh), ∀ r, Za2 l g2_c0 g2_c1 = some r → Za2.M l g2_c0 g2_c1 r) ∧ (∀ (l : (List ByteArray)) (ZaS : Nat) (g2_c0 : Zo) (g2_c1 : Zh) (Zv : (List (ByteArray × Int))) (ZF : (List ByteArray)), ∀ r, ZaB l ZaS g2_c0 g2_c1 Zv ZF = some r → ZaB.M l ZaS g2_c0 g2_c1 Zv ZF r) := by
 refine Zbq.mutual_partial_correctness Zbq.M Zbh.M ZbV.M Zak.M ZZ.M Zbj.M ZbF.M ZbA.M Za3.M Zaz.M Zdr.M Zcb.M Zce.M ZaR.M Zav.M ZcS.M ZcL.M Zca.M ZcO.M Za1.M ZaA.M Zds.M Za2.M ZaB.M ?_ ?_ ?_ ?_ ?_ ?_ ?_ ?_ ?_ ?_ ?_ ?_ ?_ ?_ ?_ ?_ ?_ ?_ ?_ ?_ ?_ ?_ ?_ ?_
 ·intro stg_checker_bind_k1' Zd4 c b top r hF
  unfold Zbq.M
  refine en Tryz.func52 ?_
  refine AWP.seq ?_
  refine ns ?_
  refine AWP.seq ?_
  refine AWP.seq ?_
  refine ns ?_
  refine AWP.block ?_
  refine AWP.seq ?_
  refine ns ?_
  refine nw ?_
  refine Zw hF (fun ZBv hF => ?_) (fun ZBv hF => ?_)
  ·obtain ⟨r75, Zxi, hF⟩ := bind_some hF
   refine ns ?_
   intro hlen74
   (try rw [List.length_map] at hlen74)
   (try rw [List.length_map])
   refine st ?_
   refine Exists.intro [] (Exists.intro [(1000, 1000), (1001, 1001), (1002, 1002)] (Exists.intro [] ?_))
   refine st ?_
   refine cm (Zn.weak (rn []) (Z8 c (decide (((b.fParams.length : Nat) : Int) > 0)) _ Zxi) rfl (WS.mk (tp (tc Ze)) (Za rfl (cc (cc (cc Zb))) (Za rfl (cc Zb) (Za rfl (cc Zb) Zf))))) ?_
   refine st ?_
   refine AWP.weak (rn []) ?_ (Zd4 top b r75.fbad r75.fcons r75.flocal _ hF)
   exact (WS.mk (tc (tp (tp Ze))) (Za rfl (cc Zb) (Za rfl (cc (cc (cc (cc (cc (cc (cc (cc (cc (cc (cc Zb))))))))))) (Za rfl (cc (cc (cc Zb))) (Za rfl (cc Zb) (Za rfl (cc Zb) Zf))))))
  ·refine AWP.seq ?_
   refine ns ?_
   refine nw ?_
   refine Zw hF (fun ZCz hF => ?_) (fun ZCz hF => ?_)
   ·obtain ⟨r78, ZxP, hF⟩ := bind_some hF
    refine ns ?_
    intro hlen77
    (try rw [List.length_map] at hlen77)
    (try rw [List.length_map])
    refine st ?_
    refine Exists.intro [] (Exists.intro [(1000, 1000), (1001, 1001), (1002, 1002)] (Exists.intro [] ?_))
    refine st ?_
    refine cm (Zn.weak (rn []) (Z8 c (((b.fParams.length : Nat) : Int) == 0) _ ZxP) rfl (WS.mk (tp (tc Ze)) (Za rfl (cc (cc (cc Zb))) (Za rfl (cc Zb) (Za rfl (cc Zb) Zf))))) ?_
    refine st ?_
    refine AWP.weak (rn []) ?_ (Zd4 top b r78.fbad r78.fcons r78.flocal _ hF)
    exact (WS.mk (tc (tp (tp Ze))) (Za rfl (cc Zb) (Za rfl (cc (cc (cc (cc (cc (cc (cc (cc (cc (cc (cc Zb))))))))))) (Za rfl (cc (cc (cc Zb))) (Za rfl (cc Zb) (Za rfl (cc Zb) Zf))))))
   ·refine AWP.seq ?_
    refine ns ?_
    refine nw ?_
    refine Zw hF (fun ZxZ hF => ?_) (fun ZxZ hF => ?_)
    ·obtain ⟨r81, ZwJ, hF⟩ := bind_some hF
     refine AWP.cutN (fun T => ∃ r, WS r T ⟨[(2, .c none (.v (.bool top))), (3, .ptr 3 0), (4, .ptr 4 0)], [(3, [(none, .pt 1000 0)]), (4, [(none, .v (.string b.fName)), (none, .v (.int .i64 b.fOp)), (none, .sl (b.fFree.map c_S)), (none, .sl (b.fParams.map c_S)), (none, .v (.int .i64 b.fBody.fOp)), (none, .v (.string b.fBody.fName)), (none, .sl (b.fBody.fArgs.map Zq.cells)), (none, .v (.bool b.fBody.fRec)), (none, .sl (b.fBody.fBinds.map Zc.cells)), (none, .sl (b.fBody.fKids.map Zo.cells)), (none, .sl (b.fBody.fAlts.map Zi.cells))]), (1000, [(none, .rf 1001), (none, .rf 1002), (none, .v (.bool r81.fbad))]), (1001, [(none, .ob 165 (r81.fcons.map (Zz c_S Zm)))]), (1002, [(none, .ob 167 (r81.flocal.map (Zz c_S Zm)))])]⟩) ?_ (fun T hw => ?_)
     ·refine ns ?_
      intro hlen80
      (try rw [List.length_map] at hlen80)
      (try rw [List.length_map])
      refine st ?_
      refine ZA true (fun Zvu => ?_) (fun Zvu => ?_)
      ·(conv => whnf)
       refine st ?_
       refine Exists.intro [] (Exists.intro [(1000, 1000), (1001, 1001), (1002, 1002)] (Exists.intro [] ?_))
       refine st ?_
       refine cm (Zn.weak (rn []) (Z8 c ((((b.fParams.length : Nat) : Int) == 0) && (b.fBody.fOp == 3)) _ ZwJ) rfl (WS.mk (tp (Zj (Zaj (web Zvu)) Ze)) (Za rfl (cc (cc (cc Zb))) (Za rfl (cc Zb) (Za rfl (cc Zb) Zf))))) ?_
       refine st ?_
       exact wx (WS.mk (tc (tp (tp Ze))) (Za rfl (cc Zb) (Za rfl (cc (cc (cc (cc (cc (cc (cc (cc (cc (cc (cc Zb))))))))))) (Za rfl (cc (cc (cc Zb))) (Za rfl (cc Zb) (Za rfl (cc Zb) Zf))))))
      ·(conv => whnf)
       refine st ?_
       refine Exists.intro [] (Exists.intro [(1000, 1000), (1001, 1001), (1002, 1002)] (Exists.intro [] ?_))
       refine st ?_
       refine cm (Zn.weak (rn []) (Z8 c ((((b.fParams.length : Nat) : Int) == 0) && (b.fBody.fOp == 3)) _ ZwJ) rfl (WS.mk (tp (Zj (Zaj (web Zvu)) Ze)) (Za rfl (cc (cc (cc Zb))) (Za rfl (cc Zb) (Za rfl (cc Zb) Zf))))) ?_
       refine st ?_
       exact wx (WS.mk (tc (tp (tp Ze))) (Za rfl (cc Zb) (Za rfl (cc (cc (cc (cc (cc (cc (cc (cc (cc (cc (cc Zb))))))))))) (Za rfl (cc (cc (cc Zb))) (Za rfl (cc Zb) (Za rfl (cc Zb) Zf))))))
     obtain ⟨r0, hw⟩ := hw
     (conv => whnf)
     refine AWP.weak r0 hw ?_
     refine AWP.weak (rn []) ?_ (Zd4 top b r81.fbad r81.fcons r81.flocal _ hF)
     exact (WS.mk (tc (tp (tp Ze))) (Za rfl (cc Zb) (Za rfl (cc (cc (cc (cc (cc (cc (cc (cc (cc (cc (cc Zb))))))))))) (Za rfl (cc (cc (cc Zb))) (Za rfl (cc Zb) (Za rfl (cc Zb) Zf))))))
    ·refine ns ?_
     refine AWP.weak (rn []) ?_ (Zd4 top b true c.fcons c.flocal _ hF)
     exact (WS.mk (tc (tp (tp Ze))) (Za rfl (cc Zb) (Za rfl (cc (cc (cc (cc (cc (cc (cc (cc (cc (cc (cc Zb))))))))))) (Za rfl (cc (cc (cc Zb))) (Za rfl (cc Zb) (Za rfl (cc Zb) Zf))))))
 ·intro stg_checker_bind_l2' ZdZ top b ZK ZJ Zp r hF
  unfold Zbh.M
  refine AWP.seq ?_
  obtain ⟨r14, Zm8, hF⟩ := bind_some hF
  obtain ⟨c16, Zhc, hF⟩ := bind_some hF
  obtain ⟨r17, ZnU, hF⟩ := bind_some hF
  refine AWP.cutN (fun T => ∃ r, WS r T ⟨[(2, .c none (.v (.bool top))), (3, .ptr 3 0), (4, .ptr 4 0)], [(3, [(none, .pt 1000 0)]), (4, [(none, .v (.string b.fName)), (none, .v (.int .i64 b.fOp)), (none, .sl (b.fFree.map c_S)), (none, .sl (b.fParams.map c_S)), (none, .v (.int .i64 b.fBody.fOp)), (none, .v (.string b.fBody.fName)), (none, .sl (b.fBody.fArgs.map Zq.cells)), (none, .v (.bool b.fBody.fRec)), (none, .sl (b.fBody.fBinds.map Zc.cells)), (none, .sl (b.fBody.fKids.map Zo.cells)), (none, .sl (b.fBody.fAlts.map Zi.cells))]), (1000, [(none, .rf 1001), (none, .rf 1002), (none, .v (.bool r17.fbad))]), (1001, [(none, .ob 165 (r17.fcons.map (Zz c_S Zm)))]), (1002, [(none, .ob 167 (r17.flocal.map (Zz c_S Zm)))])]⟩) ?_ (fun T hw => ?_)
  ·refine nn ?_
   refine Or.inl (Or.inr (Exists.intro [0] (Exists.intro [[44]] (Exists.intro [3] (Exists.intro [3, 44] (Exists.intro [44] (Exists.intro [1, 2, 3, 4, 5, 6, 7, 8, 9] (And.intro (by decide +kernel) ?_))))))))
   refine dp ?_
   refine st ?_
   refine e3 ?_
   refine st ?_
   refine cm (Zn.weak (rn []) (ZfP b.fName _ Zm8) rfl (WS.mk (tc Ze) Zf)) ?_
   refine st ?_
   refine ZA true (fun Zq8 => ?_) (fun Zq8 => ?_)
   ·have Zhc := ift Zq8 Zhc
    obtain ⟨r15, Zsp, Zhc⟩ := bind_some Zhc
    (conv => whnf)
    refine st ?_
    refine e3 ?_
    refine st ?_
    refine cm (Zn.weak (rn []) (Zf0 b.fParams _ Zsp) rfl (WS.mk (tc Ze) Zf)) ?_
    refine st ?_
    obtain rfl := Zs Zhc
    refine st ?_
    refine Exists.intro [] (Exists.intro [(1000, 1000), (1001, 1001), (1002, 1002)] (Exists.intro [] ?_))
    refine st ?_
    refine cm (Zn.weak (rn []) (Z8 (Zh.mk ZJ Zp ZK) _ _ ZnU) rfl (WS.mk (tp (Zj (Zaj (web Zq8)) Ze)) (Za rfl (cc (cc (Zlo (web Zq8) Zb))) (Za rfl (cc Zb) (Za rfl (cc Zb) Zf))))) ?_
    refine st ?_
    exact wx (WS.mk (tc (tp (tp Ze))) (Za rfl (cc Zb) (Za rfl (cc (cc (cc (cc (cc (cc (cc (cc (cc (cc (cc Zb))))))))))) (Za rfl (cc (cc (cc Zb))) (Za rfl (cc Zb) (Za rfl (cc Zb) Zf))))))
   ·have Zhc := ife Zq8 Zhc
    (conv => whnf)
    obtain rfl := Zs Zhc
    refine st ?_
    refine Exists.intro [] (Exists.intro [(1000, 1000), (1001, 1001), (1002, 1002)] (Exists.intro [] ?_))
    refine st ?_
    refine cm (Zn.weak (rn []) (Z8 (Zh.mk ZJ Zp ZK) _ _ ZnU) rfl (WS.mk (tp (Zj (Zaj (web Zq8)) Ze)) (Za rfl (cc (cc (Zlo (web Zq8) Zb))) (Za rfl (cc Zb) (Za rfl (cc Zb) Zf))))) ?_
    refine st ?_
    exact wx (WS.mk (tc (tp (tp Ze))) (Za rfl (cc Zb) (Za rfl (cc (cc (cc (cc (cc (cc (cc (cc (cc (cc (cc Zb))))))))))) (Za rfl (cc (cc (cc Zb))) (Za rfl (cc Zb) (Za rfl (cc Zb) Zf))))))
  obtain ⟨r0, hw⟩ := hw
  (conv => whnf)
  refine AWP.weak r0 hw ?_
  refine AWP.seq ?_
  refine ns ?_
  refine AWP.seq ?_
  refine AWP.seq ?_
  obtain ⟨r42, Zit, hF⟩ := bind_some hF
  refine ns ?_
  refine e3 ?_
  refine st ?_
  refine cm (Zn.weak (rn []) (Zn5 b _ Zit) rfl (WS.mk (Zj (ZaM (lc (lc (lc (lc (lc (lc (lc (lc (lc (lc (lc Zr)))))))))))) Ze) Zf)) ?_
  refine st ?_
  intro hlen43
  (try rw [List.length_map] at hlen43)
  (try rw [List.length_map])
  refine st ?_
  refine AWP.block ?_
  refine AWP.loop ?_
  refine AWL.weak (rn [(55, 55)]) ?_ (ZdZ top ([]) r42 0 b r17 r42 _ hF ([]) rfl rfl hlen43)
  exact (WS.mk (tc (tp (tp (Zj Zpg (Zj (ZH rfl (WE.refl _)) (tc (tc Ze))))))) (Za rfl (cc Zb) (Za rfl (cc (cc (cc (cc (cc (cc (cc (cc (cc (cc (cc Zb))))))))))) (Za rfl (cc (cc (cc Zb))) (Za rfl (cc Zb) (Za rfl (cc Zb) Zf))))))
 ·intro stg_checker_bind_l2' stg_scope_with_stg_checker_bind_1' ZdZ Zf8 top ZgS r42 ZnX b r17 ZjS r hF
  unfold ZbV.M
  intro Zk7 ZqS Zrb hlen43
  refine AWL.step ?_
  refine AWP.seq ?_
  refine ns ?_
  refine AWP.seq ?_
  refine nw ?_
  refine ZB ZqS Zrb (fun x59 ZuO Zys ZA9 Zzr => ?_) (fun Zys => ?_)
  ·subst Zys
   refine nw ?_
   refine AWP.seq ?_
   refine AWP.block ?_
   refine AWP.seq ?_
   refine nn ?_
   refine sr (Z9 (f := c_S) rfl ZA9) ?_
   refine st ?_
   refine AWP.seq ?_
   obtain ⟨c63, Zsf, hF⟩ := bind_some hF
   refine AWP.cutN (fun T => ∃ r, WS r T ⟨[(2, .c none (.v (.bool top))), (3, .ptr 3 0), (4, .ptr 4 0), (6, .c (some (6, 9)) (.sl (ZgS.map c_S))), (8, .c none (.v (.string x59))), (55, .c (some (55, 9)) (.sl (r42.map c_S))), (56, .c none (.v (.int .i64 ((r42.length : Nat) : Int)))), (57, .c none (.v (.int .i64 ((ZnX : Nat) : Int)))), (71, .c none (.v (.bool c63)))], [(3, [(none, .pt 1000 0)]), (4, [(none, .v (.string b.fName)), (none, .v (.int .i64 b.fOp)), (none, .sl (b.fFree.map c_S)), (none, .sl (b.fParams.map c_S)), (none, .v (.int .i64 b.fBody.fOp)), (none, .v (.string b.fBody.fName)), (none, .sl (b.fBody.fArgs.map Zq.cells)), (none, .v (.bool b.fBody.fRec)), (none, .sl (b.fBody.fBinds.map Zc.cells)), (none, .sl (b.fBody.fKids.map Zo.cells)), (none, .sl (b.fBody.fAlts.map Zi.cells))]), (1000, [(none, .rf 1001), (none, .rf 1002), (none, .v (.bool r17.fbad))]), (1001, [(none, .ob 165 (r17.fcons.map (Zz c_S Zm)))]), (1002, [(none, .ob 167 (r17.flocal.map (Zz c_S Zm)))])]⟩) ?_ (fun T hw => ?_)
   ·refine ns ?_
    refine ZA true (fun Zq3 => ?_) (fun Zq3 => ?_)
    ·have Zsf := ift Zq3 Zsf
     obtain ⟨r62, Zyb, Zsf⟩ := bind_some Zsf
     (conv => whnf)
     refine st ?_
     refine ZbB (m := r17.flocal) (k := x59) Zay (ev := Zm) Zyb rfl (fun x => ZaO x) rfl rfl (lc Zr) ?_
     obtain rfl := Zs Zsf
     refine st ?_
     exact Exists.intro (rn [(6, 6), (55, 55)]) (WS.mk (tc (tp (tp (Zj (ZH rfl (WE.refl _)) (tc (Zj (ZH rfl (WE.refl _)) (tc (tc (Zj (Zaj (web Zq3)) Ze))))))))) (Za rfl (cc Zb) (Za rfl (cc (cc (cc (cc (cc (cc (cc (cc (cc (cc (cc Zb))))))))))) (Za rfl (cc (cc (cc Zb))) (Za rfl (cc Zb) (Za rfl (cc Zb) Zf))))))
    ·have Zsf := ife Zq3 Zsf
     (conv => whnf)
     obtain rfl := Zs Zsf
     refine st ?_
     exact Exists.intro (rn [(6, 6), (55, 55)]) (WS.mk (tc (tp (tp (Zj (ZH rfl (WE.refl _)) (tc (Zj (ZH rfl (WE.refl _)) (tc (tc (Zj (Zaj (web Zq3)) Ze))))))))) (Za rfl (cc Zb) (Za rfl (cc (cc (cc (cc (cc (cc (cc (cc (cc (cc (cc Zb))))))))))) (Za rfl (cc (cc (cc Zb))) (Za rfl (cc Zb) (Za rfl (cc Zb) Zf))))))
   obtain ⟨r0, hw⟩ := hw
   (conv => whnf)
   refine AWP.weak r0 hw ?_
   refine nw ?_
   refine Zw hF (fun ZBQ hF => ?_) (fun ZBQ hF => ?_)
   ·obtain ⟨ZBK, hF⟩ := ZV hF
    refine ns ?_
    refine Exists.intro _ (And.intro (ZE (f := c_S) (lc Zr) (Zx (f := c_S))) ?_)
    refine sa (fun l => ZaE l (fun x => Zbk x)) ZBK ?_
    refine Exists.intro _ (And.intro (WE.refl _) ?_)
    rw [← List.map_append]
    refine st ?_
    refine ns ?_
    refine AWL.weak (rn [(55, 55), (75, 6)]) ?_ (ZdZ top (ZgS ++ ([x59])) r42 (ZnX + 1) b r17 ZuO _ hF (Zk7 ++ [x59]) (by rw [ZqS]; simp) (by rw [Zrb]; simp) hlen43)
    exact (WS.mk (tc (tp (tp (Zj (ZH rfl (WE.refl _)) (Zj (ZH rfl (WE.refl _)) (tc (Zj (Zaj (Zcw (ZD hlen43 Zzr))) Ze))))))) (Za rfl (cc Zb) (Za rfl (cc (cc (cc (cc (cc (cc (cc (cc (cc (cc (cc Zb))))))))))) (Za rfl (cc (cc (cc Zb))) (Za rfl (cc Zb) (Za rfl (cc Zb) Zf))))))
   ·refine nw ?_
    refine ns ?_
    refine AWL.weak (rn [(6, 6), (55, 55)]) ?_ (ZdZ top ZgS r42 (ZnX + 1) b r17 ZuO _ hF (Zk7 ++ [x59]) (by rw [ZqS]; simp) (by rw [Zrb]; simp) hlen43)
    exact (WS.mk (tc (tp (tp (Zj (ZH rfl (WE.refl _)) (Zj (ZH rfl (WE.refl _)) (tc (Zj (Zaj (Zcw (ZD hlen43 Zzr))) Ze))))))) (Za rfl (cc Zb) (Za rfl (cc (cc (cc (cc (cc (cc (cc (cc (cc (cc (cc Zb))))))))))) (Za rfl (cc (cc (cc Zb))) (Za rfl (cc Zb) (Za rfl (cc Zb) Zf))))))
  ·subst Zys
   refine nw ?_
   refine AWP.seq ?_
   obtain ⟨r69, ZxY, hF⟩ := bind_some hF
   obtain ⟨r70, ZxQ, hF⟩ := bind_some hF
   refine nn ?_
   refine Or.inl (Or.inr (Exists.intro [0, 1] (Exists.intro [[77, 78], [77, 78]] (Exists.intro [3] (Exists.intro [3, 6, 77, 78] (Exists.intro [77, 78] (Exists.intro [2, 3, 4, 5] (And.intro (by decide +kernel) ?_))))))))
   refine dp ?_
   refine dp ?_
   refine st ?_
   refine Exists.intro [6] (Exists.intro [] (Exists.intro [] ?_))
   refine st ?_
   refine cm (Zn.weak (rn []) (Zke ZgS b.fFree _ ZxY) rfl (WS.mk (tc (tc Ze)) Zf)) ?_
   refine st ?_
   refine Exists.intro [] (Exists.intro [(1000, 1000), (1001, 1001), (1002, 1002)] (Exists.intro [] ?_))
   refine st ?_
   refine cm (Zn.weak (rn []) (Z8 r17 r69 _ ZxQ) rfl (WS.mk (tp (tc Ze)) (Za rfl (cc (cc (cc Zb))) (Za rfl (cc Zb) (Za rfl (cc Zb) Zf))))) ?_
   refine st ?_
   obtain ⟨r72, ZBS, hF⟩ := bind_some hF
   refine nn ?_
   refine Or.inl (Or.inl (Exists.intro 7 (Exists.intro [[], [], [], [], [], [], []] (Exists.intro [([83, 84, 85, 86, 87, 88, 89], [], []), ([84, 85, 86, 87, 88, 89], [], []), ([85, 86, 87, 88, 89], [], []), ([86, 87, 88, 89], [], []), ([83, 84, 85, 86, 87, 88, 89], [], []), ([83, 84, 85, 86, 88, 89], [], []), ([83, 84, 85, 86, 87, 88, 89], [], [])] (Exists.intro [83, 84, 85, 86, 87, 88, 89] (And.intro (by decide +kernel) ?_))))))
   refine dp ?_
   refine dp ?_
   refine dp ?_
   refine dp ?_
   refine dp ?_
   refine dp ?_
   refine dp ?_
   refine st ?_
   refine Exists.intro [] (Exists.intro [(3, 1000), (1000, 1001), (1001, 1002), (1002, 1003), (4, 1004)] (Exists.intro [] ?_))
   refine st ?_
   refine cm (Zn.weak (rn []) (Zf8 b.fParams r70 b _ ZBS) rfl (WS.mk (tc (tc (tc Ze))) (Za rfl (cc Zb) (Za rfl (cc (cc (cc Zb))) (Za rfl (cc Zb) (Za rfl (cc Zb) (Za rfl (cc (cc (cc (cc (cc (cc (cc (cc (cc (cc (cc Zb))))))))))) Zf))))))) ?_
   refine st ?_
   obtain rfl := Zs hF
   refine Exists.intro [(1000, 1000), (1001, 1001), (1002, 1002)] ?_
   refine st ?_
   exact wx (WS.mk (Zj (Zb1 Zb3) Ze) (Za rfl (cc (cc (cc Zb))) (Za rfl (cc Zb) (Za rfl (cc Zb) Zf))))
 ·intro stg_scope_with_stg_checker_bind_1_l1' Zcq l g2_c0 g2_c1 r hF
  unfold Zak.M
  refine en Tryz.func78 ?_
  refine AWP.seq ?_
  refine AWP.seq ?_
  refine ns ?_
  intro hlen14
  (try rw [List.length_map] at hlen14)
  (try rw [List.length_map])
  refine st ?_
  refine AWP.block ?_
  refine AWP.loop ?_
  refine AWL.weak (rn []) ?_ (Zcq l 0 g2_c0 g2_c0.flocal g2_c1 l _ hF ([]) rfl rfl hlen14)
  exact (WS.mk (tc (tc (tc (tc (tc (tc Ze)))))) (Za rfl (cc Zb) (Za rfl (cc (cc (cc Zb))) (Za rfl (cc Zb) (Za rfl (cc Zb) (Za rfl (cc (cc (cc (cc (cc (cc (cc (cc (cc (cc (cc Zb))))))))))) Zf))))))
 ·intro stg_scope_with_stg_checker_bind_1_l1' stg_checker_bind_1_' Zcq Zki l ZaS g2_c0 Zk g2_c1 ZF r hF
  unfold ZZ.M
  intro Zag Zb5 Zb6 hlen14
  refine AWL.step ?_
  refine AWP.seq ?_
  refine ns ?_
  refine AWP.seq ?_
  refine nw ?_
  refine ZB Zb5 Zb6 (fun x24 Zeb Zea Ziv Zio => ?_) (fun Zea => ?_)
  ·subst Zea
   refine nw ?_
   refine AWP.seq ?_
   refine AWP.block ?_
   refine AWP.seq ?_
   refine nn ?_
   refine sr (Z9 (f := c_S) rfl Ziv) ?_
   refine st ?_
   obtain ⟨r27, Zil, hF⟩ := bind_some hF
   refine ns ?_
   refine ZbB (m := Zk) (k := x24) Zay (ev := Zm) Zil rfl (fun x => ZaO x) rfl rfl (lc Zr) ?_
   refine st ?_
   refine ZcI (m := Zk) (k := x24) (v := (IntKind.i64.wrap (r27.1 + 1))) Zay (ev := Zm) (lc Zr) ?_
   refine st ?_
   refine ns ?_
   refine AWL.weak (rn []) ?_ (Zcq l (ZaS + 1) g2_c0 (ZcQ Zk x24 (IntKind.i64.wrap (r27.1 + 1))) g2_c1 Zeb _ hF (Zag ++ [x24]) (by rw [Zb5]; simp) (by rw [Zb6]; simp) hlen14)
   exact (WS.mk (tc (tc (tc (tc (tc (Zj (Zaj (Zcw (ZD hlen14 Zio))) Ze)))))) (Za rfl (cc Zb) (Za rfl (cc (cc (cc Zb))) (Za rfl (cc Zb) (Za rfl (cc Zb) (Za rfl (cc (cc (cc (cc (cc (cc (cc (cc (cc (cc (cc Zb))))))))))) Zf))))))
  ·subst Zea
   refine nw ?_
   refine AWP.seq ?_
   obtain ⟨r28, Zis, hF⟩ := bind_some hF
   refine ns ?_
   refine Exists.intro [] (Exists.intro [(1000, 1000), (1001, 1001), (1002, 1002), (1003, 1003), (1004, 1004)] (Exists.intro [] ?_))
   refine st ?_
   refine cm (Zn.weak (rn []) (Zki (Zh.mk g2_c0.fcons Zk g2_c0.fbad) g2_c1 _ Zis) rfl (WS.mk (tp (tp Ze)) (Za rfl (cc Zb) (Za rfl (cc (cc (cc Zb))) (Za rfl (cc Zb) (Za rfl (cc Zb) (Za rfl (cc (cc (cc (cc (cc (cc (cc (cc (cc (cc (cc Zb))))))))))) Zf))))))) ?_
   refine st ?_
   refine AWP.seq ?_
   refine ns ?_
   intro hlen29
   (try rw [List.length_map] at hlen29)
   (try rw [List.length_map])
   refine st ?_
   refine AWP.block ?_
   refine AWP.loop ?_
   refine AWL.weak (rn []) ?_ (Zft l 0 r28 r28.flocal g2_c1 l _ hF ([]) rfl rfl hlen29)
   exact (WS.mk (tc (tc (tc (tc Ze)))) (Za rfl (cc Zb) (Za rfl (cc (cc (cc Zb))) (Za rfl (cc Zb) (Za rfl (cc Zb) (Za rfl (cc (cc (cc (cc (cc (cc (cc (cc (cc (cc (cc Zb))))))))))) Zf))))))
 ·intro stg_checker_expr' ZcM v0_ v1_ r hF
  unfold Zbj.M
  refine en Tryz.func86 ?_
  obtain ⟨r1, hr1, hF⟩ := bind_some hF
  refine ns ?_
  refine Exists.intro [] (Exists.intro [(1001, 1000), (1002, 1001), (1003, 1002)] (Exists.intro [] ?_))
  refine st ?_
  refine cm (Zn.weak (rn []) (ZcM v0_ v1_.fBody _ hr1) rfl (WS.mk (tp (Zj (ZaM (lc (lc (lc (lc (lc (lc (lc Zr)))))))) Ze)) (Za rfl (cc (cc (cc Zb))) (Za rfl (cc Zb) (Za rfl (cc Zb) Zf))))) ?_
  refine st ?_
  obtain rfl := Zs hF
  refine Exists.intro [(1000, 1000), (1001, 1001), (1002, 1002), (1003, 1003), (1004, 1004)] ?_
  refine st ?_
  exact wx (WS.mk (Zj (Zb1 Zb3) Ze) (Za rfl (cc Zb) (Za rfl (cc (cc (cc Zb))) (Za rfl (cc Zb) (Za rfl (cc Zb) (Za rfl (cc (cc (cc (cc (cc (cc (cc (cc (cc (cc (cc Zb))))))))))) Zf))))))
 ·intro stg_checker_expr_l1' Zd3 c e r hF
  unfold ZbF.M
  refine en Tryz.func87 ?_
  refine AWP.seq ?_
  refine ns ?_
  refine AWP.seq ?_
  obtain ⟨r3, hr3, hF⟩ := bind_some hF
  obtain ⟨r4, hr4, hF⟩ := bind_some hF
  refine nn ?_
  refine Or.inl (Or.inr (Exists.intro [0] (Exists.intro [[8]] (Exists.intro [2] (Exists.intro [2, 8] (Exists.intro [8] (Exists.intro [1, 2, 3] (And.intro (by decide +kernel) ?_))))))))
  refine dp ?_
  refine st ?_
  refine e3 ?_
  refine st ?_
  refine cm (Zn.weak (rn []) (ZqJ e _ hr3) rfl (WS.mk (Zj (ZaM (lc (lc (lc (lc (lc (lc (lc Zr)))))))) Ze) Zf)) ?_
  refine st ?_
  refine Exists.intro [] (Exists.intro [(1000, 1000), (1001, 1001), (1002, 1002)] (Exists.intro [] ?_))
  refine st ?_
  refine cm (Zn.weak (rn []) (Z8 c r3 _ hr4) rfl (WS.mk (tp (tc Ze)) (Za rfl (cc (cc (cc Zb))) (Za rfl (cc Zb) (Za rfl (cc Zb) Zf))))) ?_
  refine st ?_
  refine AWP.seq ?_
  refine AWP.seq ?_
  refine ns ?_
  refine nw ?_
  refine Zw hF (fun hc6 hF => ?_) (fun hc6 hF => ?_)
  ·obtain rfl := Zs hF
   refine ns ?_
   refine Exists.intro [(1000, 1000), (1001, 1001), (1002, 1002)] ?_
   refine st ?_
   exact wx (WS.mk (Zj (Zb1 Zb3) Ze) (Za rfl (cc (cc (cc Zb))) (Za rfl (cc Zb) (Za rfl (cc Zb) Zf))))
  ·refine nw ?_
   refine AWP.seq ?_
   refine AWP.seq ?_
   refine ns ?_
   intro hlen35
   (try rw [List.length_map] at hlen35)
   (try rw [List.length_map])
   refine st ?_
   refine AWP.block ?_
   refine AWP.loop ?_
   refine AWL.weak (rn []) ?_ (Zd3 e 0 r4.fbad r4.fcons r4.flocal e.fArgs _ hF ([]) rfl rfl hlen35)
   exact (WS.mk (tp (tp (tc (tc (tc Ze))))) (Za rfl (cc Zb) (Za rfl (cc (cc (cc (cc (cc (cc (cc Zb))))))) (Za rfl (cc (cc (cc Zb))) (Za rfl (cc Zb) (Za rfl (cc Zb) Zf))))))
 ·intro stg_checker_expr' stg_checker_expr_l1' stg_scope_with_stg_checker_expr_3' stg_checker_expr_1_' stg_checker_expr_k2' stg_scope_with_stg_checker_expr_1' ZcM Zd3 Zf7 ZeU ZgY Zgc e ZoP ZK ZJ Zp Zj7 r hF
  unfold ZbA.M
  intro ZkL Zq1 ZqT hlen35
  refine AWL.step ?_
  refine AWP.seq ?_
  refine ns ?_
  refine AWP.seq ?_
  refine nw ?_
  refine ZB Zq1 ZqT (fun x55 ZvW ZxV ZB2 Zsj => ?_) (fun ZxV => ?_)
  ·subst ZxV
   refine nw ?_
   refine AWP.seq ?_
   refine AWP.block ?_
   refine AWP.seq ?_
   refine nn ?_
   refine sr (Z9 (f := Zq.cells) (Zq.cells_eq x55) ZB2) ?_
   refine st ?_
   refine AWP.seq ?_
   obtain ⟨r60, Zwl, hF⟩ := bind_some hF
   obtain ⟨r61, ZBc, hF⟩ := bind_some hF
   refine nn ?_
   refine Or.inl (Or.inr (Exists.intro [0] (Exists.intro [[23]] (Exists.intro [2] (Exists.intro [2, 23] (Exists.intro [23] (Exists.intro [1, 2, 3] (And.intro (by decide +kernel) ?_))))))))
   refine dp ?_
   refine st ?_
   refine e3 ?_
   refine st ?_
   refine cm (Zn.weak (rn []) (Zrf x55 _ Zwl) rfl (WS.mk (Zj (ZaM (lc (lc (lc Zr)))) Ze) Zf)) ?_
   refine st ?_
   refine Exists.intro [] (Exists.intro [(1000, 1000), (1001, 1001), (1002, 1002)] (Exists.intro [] ?_))
   refine st ?_
   refine cm (Zn.weak (rn []) (Z8 (Zh.mk ZJ Zp ZK) r60 _ ZBc) rfl (WS.mk (tp (tc Ze)) (Za rfl (cc (cc (cc Zb))) (Za rfl (cc Zb) (Za rfl (cc Zb) Zf))))) ?_
   refine st ?_
   refine AWP.seq ?_
   refine ns ?_
   refine nw ?_
   refine Zw hF (fun ZBG hF => ?_) (fun ZBG hF => ?_)
   ·obtain ⟨r63, Zxz, hF⟩ := bind_some hF
    refine ns ?_
    refine Exists.intro [] (Exists.intro [(1000, 1000), (1001, 1001), (1002, 1002)] (Exists.intro [] ?_))
    refine st ?_
    refine cm (Zn.weak (rn []) (ZgQ r61 x55.fName _ Zxz) rfl (WS.mk (tp (tc Ze)) (Za rfl (cc (cc (cc Zb))) (Za rfl (cc Zb) (Za rfl (cc Zb) Zf))))) ?_
    refine st ?_
    refine ns ?_
    refine AWL.weak (rn []) ?_ (Zd3 e (ZoP + 1) r63.fbad r63.fcons r63.flocal ZvW _ hF (ZkL ++ [x55]) (by rw [Zq1]; simp) (by rw [ZqT]; simp) hlen35)
    exact (WS.mk (tp (tp (tc (tc (Zj (Zaj (Zcw (ZD hlen35 Zsj))) Ze))))) (Za rfl (cc Zb) (Za rfl (cc (cc (cc (cc (cc (cc (cc Zb))))))) (Za rfl (cc (cc (cc Zb))) (Za rfl (cc Zb) (Za rfl (cc Zb) Zf))))))
   ·refine nw ?_
    refine ns ?_
    refine AWL.weak (rn []) ?_ (Zd3 e (ZoP + 1) r61.fbad r61.fcons r61.flocal ZvW _ hF (ZkL ++ [x55]) (by rw [Zq1]; simp) (by rw [ZqT]; simp) hlen35)
    exact (WS.mk (tp (tp (tc (tc (Zj (Zaj (Zcw (ZD hlen35 Zsj))) Ze))))) (Za rfl (cc Zb) (Za rfl (cc (cc (cc (cc (cc (cc (cc Zb))))))) (Za rfl (cc (cc (cc Zb))) (Za rfl (cc Zb) (Za rfl (cc Zb) Zf))))))
  ·subst ZxV
   refine nw ?_
   refine AWP.seq ?_
   refine ns ?_
   refine AWP.block ?_
   refine AWP.seq ?_
   refine ns ?_
   refine nw ?_
   refine Zw hF (fun Zq3 hF => ?_) (fun Zq3 hF => ?_)
   ·obtain ⟨r65, ZBX, hF⟩ := bind_some hF
    refine ns ?_
    refine Exists.intro [] (Exists.intro [(1000, 1000), (1001, 1001), (1002, 1002)] (Exists.intro [] ?_))
    refine st ?_
    refine cm (Zn.weak (rn []) (ZgQ (Zh.mk ZJ Zp ZK) e.fName _ ZBX) rfl (WS.mk (tp (tc Ze)) (Za rfl (cc (cc (cc Zb))) (Za rfl (cc Zb) (Za rfl (cc Zb) Zf))))) ?_
    refine st ?_
    obtain rfl := Zs hF
    refine Exists.intro [(1000, 1000), (1001, 1001), (1002, 1002)] ?_
    refine st ?_
    exact wx (WS.mk (Zj (Zb1 Zb3) Ze) (Za rfl (cc (cc (cc Zb))) (Za rfl (cc Zb) (Za rfl (cc Zb) Zf))))
   ·refine AWP.seq ?_
    refine ns ?_
    refine nw ?_
    refine Zw hF (fun ZBB hF => ?_) (fun ZBB hF => ?_)
    ·obtain ⟨r68, ZxG, hF⟩ := bind_some hF
     refine ns ?_
     intro hlen67
     (try rw [List.length_map] at hlen67)
     (try rw [List.length_map])
     refine st ?_
     refine Exists.intro [] (Exists.intro [(1000, 1000), (1001, 1001), (1002, 1002)] (Exists.intro [] ?_))
     refine st ?_
     refine cm (Zn.weak (rn []) (Zir (Zh.mk ZJ Zp ZK) e.fName ((e.fArgs.length : Nat) : Int) _ ZxG) rfl (WS.mk (tp (tc (tc Ze))) (Za rfl (cc (cc (cc Zb))) (Za rfl (cc Zb) (Za rfl (cc Zb) Zf))))) ?_
     refine st ?_
     obtain rfl := Zs hF
     refine Exists.intro [(1000, 1000), (1001, 1001), (1002, 1002)] ?_
     refine st ?_
     exact wx (WS.mk (Zj (Zb1 Zb3) Ze) (Za rfl (cc (cc (cc Zb))) (Za rfl (cc Zb) (Za rfl (cc Zb) Zf))))
    ·refine AWP.seq ?_
     refine ns ?_
     refine nw ?_
     refine Zw hF (fun ZCe hF => ?_) (fun ZCe hF => ?_)
     ·refine AWP.seq ?_
      obtain ⟨r70, ZxQ, hF⟩ := bind_some hF
      refine ns ?_
      refine e3 ?_
      refine st ?_
      refine cm (Zn.weak (rn []) (ZjP e.fBinds _ ZxQ) rfl (WS.mk (tc Ze) Zf)) ?_
      refine st ?_
      refine AWP.seq ?_
      obtain ⟨r73, ZBj, hF⟩ := bind_some hF
      obtain ⟨r74, Zyc, hF⟩ := bind_some hF
      refine nn ?_
      refine Or.inl (Or.inr (Exists.intro [0] (Exists.intro [[57]] (Exists.intro [2] (Exists.intro [2, 57] (Exists.intro [57] (Exists.intro [1, 2, 3] (And.intro (by decide +kernel) ?_))))))))
      refine dp ?_
      refine st ?_
      refine Exists.intro [56] (Exists.intro [] (Exists.intro [] ?_))
      refine st ?_
      refine cm (Zn.weak (rn []) (Zf0 r70 _ ZBj) rfl (WS.mk (tc Ze) Zf)) ?_
      refine st ?_
      refine Exists.intro [] (Exists.intro [(1000, 1000), (1001, 1001), (1002, 1002)] (Exists.intro [] ?_))
      refine st ?_
      refine cm (Zn.weak (rn []) (Z8 (Zh.mk ZJ Zp ZK) r73 _ Zyc) rfl (WS.mk (tp (tc Ze)) (Za rfl (cc (cc (cc Zb))) (Za rfl (cc Zb) (Za rfl (cc Zb) Zf))))) ?_
      refine st ?_
      refine AWP.seq ?_
      refine ns ?_
      refine AWP.seq ?_
      refine AWP.seq ?_
      refine ns ?_
      refine nw ?_
      refine Zw hF (fun ZxZ hF => ?_) (fun ZxZ hF => ?_)
      ·obtain ⟨r80, ZBI, hF⟩ := bind_some hF
       refine ns ?_
       refine Exists.intro [56] (Exists.intro [(3, 1000), (2, 1001), (1000, 1002), (1001, 1003), (1002, 1004)] (Exists.intro [] ?_))
       refine st ?_
       refine cm (Zn.weak (rn []) (Zgc r70 e r74 _ ZBI) rfl (WS.mk (tc (tc (tc Ze))) (Za rfl (cc (cc (cc (cc (cc (cc (cc Zb))))))) (Za rfl (cc Zb) (Za rfl (cc (cc (cc Zb))) (Za rfl (cc Zb) (Za rfl (cc Zb) Zf))))))) ?_
       refine st ?_
       refine AWP.weak (rn [(56, 6)]) ?_ (ZgY r70 e r80.fbad r80.fcons r80.flocal _ hF hlen35)
       exact (WS.mk (tp (tp (Zj (ZH rfl (WE.refl _)) Ze))) (Za rfl (cc Zb) (Za rfl (cc (cc (cc (cc (cc (cc (cc Zb))))))) (Za rfl (cc (cc (cc Zb))) (Za rfl (cc Zb) (Za rfl (cc Zb) Zf))))))
      ·obtain ⟨r81, ZwJ, hF⟩ := bind_some hF
       refine ns ?_
       refine Exists.intro [] (Exists.intro [(3, 1000), (2, 1001), (1000, 1002), (1001, 1003), (1002, 1004)] (Exists.intro [] ?_))
       refine st ?_
       refine cm (Zn.weak (rn []) (ZeU e r74 _ ZwJ) rfl (WS.mk (tp (tp Ze)) (Za rfl (cc (cc (cc (cc (cc (cc (cc Zb))))))) (Za rfl (cc Zb) (Za rfl (cc (cc (cc Zb))) (Za rfl (cc Zb) (Za rfl (cc Zb) Zf))))))) ?_
       refine st ?_
       refine AWP.weak (rn [(56, 6)]) ?_ (ZgY r70 e r81.fbad r81.fcons r81.flocal _ hF hlen35)
       exact (WS.mk (tp (tp (Zj (ZH rfl (WE.refl _)) Ze))) (Za rfl (cc Zb) (Za rfl (cc (cc (cc (cc (cc (cc (cc Zb))))))) (Za rfl (cc (cc (cc Zb))) (Za rfl (cc Zb) (Za rfl (cc Zb) Zf))))))
     ·refine AWP.seq ?_
      refine ns ?_
      refine nw ?_
      refine Zw hF (fun Zvu hF => ?_) (fun Zvu hF => ?_)
      ·refine AWP.seq ?_
       obtain ⟨r85, ZA6, hF⟩ := bind_some hF
       obtain ⟨r86, ZCg, hF⟩ := bind_some hF
       refine nn ?_
       refine Or.inl (Or.inr (Exists.intro [0, 1, 2] (Exists.intro [[82, 83, 84], [82, 83, 84], [82, 84]] (Exists.intro [2, 3] (Exists.intro [2, 3, 82, 83, 84] (Exists.intro [82, 83, 84] (Exists.intro [3, 4, 5, 6] (And.intro (by decide +kernel) ?_))))))))
       refine dp ?_
       refine dp ?_
       refine dp ?_
       refine st ?_
       refine e3 ?_
       refine st ?_
       refine cm (Zn.weak (rn []) (ZlK e.fName e.fAlts _ ZA6) rfl (WS.mk (tc (tc Ze)) Zf)) ?_
       refine st ?_
       refine Exists.intro [] (Exists.intro [(1000, 1000), (1001, 1001), (1002, 1002)] (Exists.intro [] ?_))
       refine st ?_
       refine cm (Zn.weak (rn []) (Z8 (Zh.mk ZJ Zp ZK) r85 _ ZCg) rfl (WS.mk (tp (tc Ze)) (Za rfl (cc (cc (cc Zb))) (Za rfl (cc Zb) (Za rfl (cc Zb) Zf))))) ?_
       refine st ?_
       refine AWP.seq ?_
       obtain ⟨x89, hx890, ZBH, hF⟩ := ZiQ hF
       obtain ⟨r90, ZBb, hF⟩ := bind_some hF
       refine nn ?_
       refine Or.inl (Or.inl (Exists.intro 5 (Exists.intro [[], [], [], [], []] (Exists.intro [([89, 90, 91, 92, 93], [], []), ([89, 90, 91, 92, 93], [], []), ([89, 91, 92, 93], [], []), ([89, 92, 93], [], []), ([89, 93], [], [])] (Exists.intro [89, 90, 91, 92, 93] (And.intro (by decide +kernel) ?_))))))
       refine dp ?_
       refine dp ?_
       refine dp ?_
       refine dr (ZhL (Zo.cells_eq x89) ZBH) ?_
       refine dp ?_
       refine st ?_
       refine Exists.intro [] (Exists.intro [(1000, 1000), (1001, 1001), (1002, 1002)] (Exists.intro [] ?_))
       refine st ?_
       refine cm (Zn.weak (rn []) (ZcM r86 x89 _ ZBb) rfl (WS.mk (tp (Zj (ZaM (lc (lc (lc (lc (lc (lc (lc Zr)))))))) Ze)) (Za rfl (cc (cc (cc Zb))) (Za rfl (cc Zb) (Za rfl (cc Zb) Zf))))) ?_
       refine st ?_
       obtain ⟨r92, ZCo, hF⟩ := bind_some hF
       refine nn ?_
       refine Or.inl (Or.inl (Exists.intro 8 (Exists.intro [[], [], [], [], [], [], [], []] (Exists.intro [([95, 96, 97, 98, 99, 100, 101, 102], [], []), ([96, 97, 98, 99, 100, 101, 102], [], []), ([97, 98, 99, 100, 101, 102], [], []), ([98, 99, 100, 101, 102], [], []), ([95, 96, 97, 98, 99, 100, 101, 102], [], []), ([95, 96, 97, 98, 100, 101, 102], [], []), ([95, 96, 97, 98, 101, 102], [], []), ([95, 96, 97, 98, 99, 100, 101, 102], [], [])] (Exists.intro [95, 96, 97, 98, 99, 100, 101, 102] (And.intro (by decide +kernel) ?_))))))
       refine dp ?_
       refine dp ?_
       refine dp ?_
       refine dp ?_
       refine dp ?_
       refine dp ?_
       refine de (ZE (f := c_S) (lc Zr) (Zx (f := c_S))) ?_
       refine dp ?_
       refine st ?_
       refine Exists.intro [] (Exists.intro [(3, 1000), (2, 1001), (1000, 1002), (1001, 1003), (1002, 1004)] (Exists.intro [] ?_))
       refine st ?_
       refine cm (Zn.weak (rn []) (Zf7 ([e.fName]) e r90 _ ZCo) rfl (WS.mk (tc (tc (tc Ze))) (Za rfl (cc (cc (cc (cc (cc (cc (cc Zb))))))) (Za rfl (cc Zb) (Za rfl (cc (cc (cc Zb))) (Za rfl (cc Zb) (Za rfl (cc Zb) Zf))))))) ?_
       refine st ?_
       obtain rfl := Zs hF
       refine Exists.intro [(1000, 1000), (1001, 1001), (1002, 1002)] ?_
       refine st ?_
       exact wx (WS.mk (Zj (Zb1 Zb3) Ze) (Za rfl (cc (cc (cc Zb))) (Za rfl (cc Zb) (Za rfl (cc Zb) Zf))))
      ·refine nw ?_
       obtain rfl := Zs hF
       refine Exists.intro [(1000, 1000), (1001, 1001), (1002, 1002)] ?_
       refine st ?_
       exact wx (WS.mk (Zj (Zb1 Zb3) Ze) (Za rfl (cc (cc (cc Zb))) (Za rfl (cc Zb) (Za rfl (cc Zb) Zf))))
 ·intro stg_scope_with_stg_checker_expr_3_l1' Zcv l g2_c0 g2_c1 r hF
  unfold Za3.M
  refine en Tryz.func78 ?_
  refine AWP.seq ?_
  refine AWP.seq ?_
  refine ns ?_
  intro hlen14
  (try rw [List.length_map] at hlen14)
  (try rw [List.length_map])
  refine st ?_
  refine AWP.block ?_
  refine AWP.loop ?_
  refine AWL.weak (rn []) ?_ (Zcv l 0 g2_c0 g2_c1 g2_c1.flocal l _ hF ([]) rfl rfl hlen14)
  exact (WS.mk (tc (tc (tc (tc (tc (tc Ze)))))) (Za rfl (cc (cc (cc (cc (cc (cc (cc Zb))))))) (Za rfl (cc Zb) (Za rfl (cc (cc (cc Zb))) (Za rfl (cc Zb) (Za rfl (cc Zb) Zf))))))
 ·intro stg_scope_with_stg_checker_expr_3_l1' stg_checker_expr_3_' Zcv Zkg l ZaS g2_c0 g2_c1 Zv ZF r hF
  unfold Zaz.M
  intro Zag Zb5 Zb6 hlen14
  refine AWL.step ?_
  refine AWP.seq ?_
  refine ns ?_
  refine AWP.seq ?_
  refine nw ?_
  refine ZB Zb5 Zb6 (fun x24 Zeb Zea Ziv Zio => ?_) (fun Zea => ?_)
  ·subst Zea
   refine nw ?_
   refine AWP.seq ?_
   refine AWP.block ?_
   refine AWP.seq ?_
   refine nn ?_
   refine sr (Z9 (f := c_S) rfl Ziv) ?_
   refine st ?_
   obtain ⟨r27, Zil, hF⟩ := bind_some hF
   refine ns ?_
   refine ZbB (m := Zv) (k := x24) Zay (ev := Zm) Zil rfl (fun x => ZaO x) rfl rfl (lc Zr) ?_
   refine st ?_
   refine ZcI (m := Zv) (k := x24) (v := (IntKind.i64.wrap (r27.1 + 1))) Zay (ev := Zm) (lc Zr) ?_
   refine st ?_
   refine ns ?_
   refine AWL.weak (rn []) ?_ (Zcv l (ZaS + 1) g2_c0 g2_c1 (ZcQ Zv x24 (IntKind.i64.wrap (r27.1 + 1))) Zeb _ hF (Zag ++ [x24]) (by rw [Zb5]; simp) (by rw [Zb6]; simp) hlen14)
   exact (WS.mk (tc (tc (tc (tc (tc (Zj (Zaj (Zcw (ZD hlen14 Zio))) Ze)))))) (Za rfl (cc (cc (cc (cc (cc (cc (cc Zb))))))) (Za rfl (cc Zb) (Za rfl (cc (cc (cc Zb))) (Za rfl (cc Zb) (Za rfl (cc Zb) Zf))))))
  ·subst Zea
   refine nw ?_
   refine AWP.seq ?_
   obtain ⟨r28, Zis, hF⟩ := bind_some hF
   refine ns ?_
   refine Exists.intro [] (Exists.intro [(1000, 1000), (1001, 1001), (1002, 1002), (1003, 1003), (1004, 1004)] (Exists.intro [] ?_))
   refine st ?_
   refine cm (Zn.weak (rn []) (Zkg g2_c0 (Zh.mk g2_c1.fcons Zv g2_c1.fbad) _ Zis) rfl (WS.mk (tp (tp Ze)) (Za rfl (cc (cc (cc (cc (cc (cc (cc Zb))))))) (Za rfl (cc Zb) (Za rfl (cc (cc (cc Zb))) (Za rfl (cc Zb) (Za rfl (cc Zb) Zf))))))) ?_
   refine st ?_
   refine AWP.seq ?_
   refine ns ?_
   intro hlen29
   (try rw [List.length_map] at hlen29)
   (try rw [List.length_map])
   refine st ?_
   refine AWP.block ?_
   refine AWP.loop ?_
   refine AWL.weak (rn []) ?_ (Zfq l 0 g2_c0 r28 r28.flocal l _ hF ([]) rfl rfl hlen29)
   exact (WS.mk (tc (tc (tc (tc Ze)))) (Za rfl (cc (cc (cc (cc (cc (cc (cc Zb))))))) (Za rfl (cc Zb) (Za rfl (cc (cc (cc Zb))) (Za rfl (cc Zb) (Za rfl (cc Zb) Zf))))))
 ·intro stg_checker_expr_3__l1' Zem v0_ v1_ r hF
  unfold Zdr.M
  refine en Tryz.func117 ?_
  refine AWP.seq ?_
  refine ns ?_
  intro hlen33
  (try rw [List.length_map] at hlen33)
  (try rw [List.length_map])
  refine st ?_
  refine AWP.block ?_
  refine AWP.loop ?_
  refine AWL.weak (rn []) ?_ (Zem v0_ 0 v1_.fbad v1_.fcons v1_.flocal _ hF hlen33)
  exact (WS.mk (tp (tc (tc (tc Ze)))) (Za rfl (cc (cc (cc (cc (cc (cc (cc Zb))))))) (Za rfl (cc Zb) (Za rfl (cc (cc (cc Zb))) (Za rfl (cc Zb) (Za rfl (cc Zb) Zf))))))
 ·intro stg_checker_expr_3__k2' Zf4 v0_ x_7 Z1 Zk Zv r hF
  unfold Zcb.M
  intro hlen33
  refine AWL.step ?_
  refine AWP.seq ?_
  refine ns ?_
  refine AWP.seq ?_
  refine nw ?_
  refine Zw hF (fun Zj1 hF => ?_) (fun Zj1 hF => ?_)
  ·have Zsj := Znh Zj1
   refine nw ?_
   refine AWP.seq ?_
   refine AWP.block ?_
   refine AWP.seq ?_
   obtain ⟨x58, ZBF, hF⟩ := bind_some hF
   refine nn ?_
   refine sr (Z9 (f := Zi.cells) (Zi.cells_eq x58) ZBF) ?_
   refine st ?_
   refine AWP.seq ?_
   refine AWP.seq ?_
   refine ns ?_
   refine nw ?_
   refine Zw hF (fun Zq3 hF => ?_) (fun Zq3 hF => ?_)
   ·obtain ⟨r66, ZCn, hF⟩ := bind_some hF
    refine ns ?_
    intro hlen65
    (try rw [List.length_map] at hlen65)
    (try rw [List.length_map])
    refine st ?_
    refine Exists.intro [] (Exists.intro [(1002, 1000), (1003, 1001), (1004, 1002)] (Exists.intro [] ?_))
    refine st ?_
    refine cm (Zn.weak (rn []) (Zir (Zh.mk Zk Zv Z1) x58.fName ((x58.fVars.length : Nat) : Int) _ ZCn) rfl (WS.mk (tp (tc (tc Ze))) (Za rfl (cc (cc (cc Zb))) (Za rfl (cc Zb) (Za rfl (cc Zb) Zf))))) ?_
    refine st ?_
    refine AWP.weak (rn []) ?_ (Zf4 v0_ x_7 x58 r66.fbad r66.fcons r66.flocal _ hF hlen33 Zsj)
    exact (WS.mk (tp (tp (tc (tc (tc Ze))))) (Za rfl (cc (cc (cc (cc (cc (cc (cc (cc (cc (cc (cc Zb))))))))))) (Za rfl (cc (cc (cc (cc (cc (cc (cc Zb))))))) (Za rfl (cc Zb) (Za rfl (cc (cc (cc Zb))) (Za rfl (cc Zb) (Za rfl (cc Zb) Zf)))))))
   ·refine nw ?_
    refine AWP.weak (rn []) ?_ (Zf4 v0_ x_7 x58 Z1 Zk Zv _ hF hlen33 Zsj)
    exact (WS.mk (tp (tp (tc (tc (tc Ze))))) (Za rfl (cc (cc (cc (cc (cc (cc (cc (cc (cc (cc (cc Zb))))))))))) (Za rfl (cc (cc (cc (cc (cc (cc (cc Zb))))))) (Za rfl (cc Zb) (Za rfl (cc (cc (cc Zb))) (Za rfl (cc Zb) (Za rfl (cc Zb) Zf)))))))
  ·refine nw ?_
   obtain rfl := Zs hF
   refine Exists.intro [(1000, 1000), (1001, 1001), (1002, 1002), (1003, 1003), (1004, 1004)] ?_
   refine st ?_
   exact wx (WS.mk (Zj (Zb1 Zb3) Ze) (Za rfl (cc (cc (cc (cc (cc (cc (cc Zb))))))) (Za rfl (cc Zb) (Za rfl (cc (cc (cc Zb))) (Za rfl (cc Zb) (Za rfl (cc Zb) Zf))))))
 ·intro stg_checker_expr_3__l1' stg_scope_with_stg_checker_expr_3_1' Zem ZfD v0_ x_7 x58 Z1 Zk Zv r hF
  unfold Zce.M
  intro hlen33 Zsj
  obtain ⟨r63, Zxz, hF⟩ := bind_some hF
  refine nn ?_
  refine Or.inl (Or.inl (Exists.intro 7 (Exists.intro [[], [], [], [], [], [], []] (Exists.intro [([21, 22, 23, 24, 25, 26, 27], [], []), ([22, 23, 24, 25, 26, 27], [], []), ([23, 24, 25, 26, 27], [], []), ([24, 25, 26, 27], [], []), ([21, 22, 23, 24, 25, 26, 27], [], []), ([21, 22, 23, 24, 26, 27], [], []), ([21, 22, 23, 24, 25, 26, 27], [], [])] (Exists.intro [21, 22, 23, 24, 25, 26, 27] (And.intro (by decide +kernel) ?_))))))
  refine dp ?_
  refine dp ?_
  refine dp ?_
  refine dp ?_
  refine dp ?_
  refine dp ?_
  refine dp ?_
  refine st ?_
  refine Exists.intro [] (Exists.intro [(1001, 1000), (1002, 1001), (1003, 1002), (1004, 1003), (3, 1004)] (Exists.intro [] ?_))
  refine st ?_
  refine cm (Zn.weak (rn []) (ZfD x58.fVars (Zh.mk Zk Zv Z1) x58 _ Zxz) rfl (WS.mk (tc (tc (tc Ze))) (Za rfl (cc Zb) (Za rfl (cc (cc (cc Zb))) (Za rfl (cc Zb) (Za rfl (cc Zb) (Za rfl (cc (cc (cc (cc (cc (cc (cc (cc (cc (cc (cc Zb))))))))))) Zf))))))) ?_
  refine st ?_
  refine ns ?_
  refine AWL.weak (rn []) ?_ (Zem v0_ (x_7 + 1) r63.fbad r63.fcons r63.flocal _ hF hlen33)
  exact (WS.mk (tp (tc (tc (Zj (Zaj (Zcw (ZD hlen33 Zsj))) Ze)))) (Za rfl (cc (cc (cc (cc (cc (cc (cc Zb))))))) (Za rfl (cc Zb) (Za rfl (cc (cc (cc Zb))) (Za rfl (cc Zb) (Za rfl (cc Zb) Zf))))))
 ·intro stg_scope_with_stg_checker_expr_3_1_l1' Zcg l g2_c0 g2_c1 r hF
  unfold ZaR.M
  refine en Tryz.func78 ?_
  refine AWP.seq ?_
  refine AWP.seq ?_
  refine ns ?_
  intro hlen14
  (try rw [List.length_map] at hlen14)
  (try rw [List.length_map])
  refine st ?_
  refine AWP.block ?_
  refine AWP.loop ?_
  refine AWL.weak (rn []) ?_ (Zcg l 0 g2_c0 g2_c0.flocal g2_c1 l _ hF ([]) rfl rfl hlen14)
  exact (WS.mk (tc (tc (tc (tc (tc (tc Ze)))))) (Za rfl (cc Zb) (Za rfl (cc (cc (cc Zb))) (Za rfl (cc Zb) (Za rfl (cc Zb) (Za rfl (cc (cc (cc (cc (cc (cc (cc (cc (cc (cc (cc Zb))))))))))) Zf))))))
 ·intro stg_scope_with_stg_checker_expr_3_1_l1' stg_checker_expr_3_1_' Zcg Zi3 l ZaS g2_c0 Zk g2_c1 ZF r hF
  unfold Zav.M
  intro Zag Zb5 Zb6 hlen14
  refine AWL.step ?_
  refine AWP.seq ?_
  refine ns ?_
  refine AWP.seq ?_
  refine nw ?_
  refine ZB Zb5 Zb6 (fun x24 Zeb Zea Ziv Zio => ?_) (fun Zea => ?_)
  ·subst Zea
   refine nw ?_
   refine AWP.seq ?_
   refine AWP.block ?_
   refine AWP.seq ?_
   refine nn ?_
   refine sr (Z9 (f := c_S) rfl Ziv) ?_
   refine st ?_
   obtain ⟨r27, Zil, hF⟩ := bind_some hF
   refine ns ?_
   refine ZbB (m := Zk) (k := x24) Zay (ev := Zm) Zil rfl (fun x => ZaO x) rfl rfl (lc Zr) ?_
   refine st ?_
   refine ZcI (m := Zk) (k := x24) (v := (IntKind.i64.wrap (r27.1 + 1))) Zay (ev := Zm) (lc Zr) ?_
   refine st ?_
   refine ns ?_
   refine AWL.weak (rn []) ?_ (Zcg l (ZaS + 1) g2_c0 (ZcQ Zk x24 (IntKind.i64.wrap (r27.1 + 1))) g2_c1 Zeb _ hF (Zag ++ [x24]) (by rw [Zb5]; simp) (by rw [Zb6]; simp) hlen14)
   exact (WS.mk (tc (tc (tc (tc (tc (Zj (Zaj (Zcw (ZD hlen14 Zio))) Ze)))))) (Za rfl (cc Zb) (Za rfl (cc (cc (cc Zb))) (Za rfl (cc Zb) (Za rfl (cc Zb) (Za rfl (cc (cc (cc (cc (cc (cc (cc (cc (cc (cc (cc Zb))))))))))) Zf))))))
  ·subst Zea
   refine nw ?_
   refine AWP.seq ?_
   obtain ⟨r28, Zis, hF⟩ := bind_some hF
   refine ns ?_
   refine Exists.intro [] (Exists.intro [(1000, 1000), (1001, 1001), (1002, 1002), (1003, 1003), (1004, 1004)] (Exists.intro [] ?_))
   refine st ?_
   refine cm (Zn.weak (rn []) (Zi3 (Zh.mk g2_c0.fcons Zk g2_c0.fbad) g2_c1 _ Zis) rfl (WS.mk (tp (tp Ze)) (Za rfl (cc Zb) (Za rfl (cc (cc (cc Zb))) (Za rfl (cc Zb) (Za rfl (cc Zb) (Za rfl (cc (cc (cc (cc (cc (cc (cc (cc (cc (cc (cc Zb))))))))))) Zf))))))) ?_
   refine st ?_
   refine AWP.seq ?_
   refine ns ?_
   intro hlen29
   (try rw [List.length_map] at hlen29)
   (try rw [List.length_map])
   refine st ?_
   refine AWP.block ?_
   refine AWP.loop ?_
   refine AWL.weak (rn []) ?_ (Ze2 l 0 r28 r28.flocal g2_c1 l _ hF ([]) rfl rfl hlen29)
   exact (WS.mk (tc (tc (tc (tc Ze)))) (Za rfl (cc Zb) (Za rfl (cc (cc (cc Zb))) (Za rfl (cc Zb) (Za rfl (cc Zb) (Za rfl (cc (cc (cc (cc (cc (cc (cc (cc (cc (cc (cc Zb))))))))))) Zf))))))
 ·intro stg_checker_expr' ZcM v0_ v1_ r hF
  unfold ZcS.M
  refine en Tryz.func118 ?_
  obtain ⟨r1, hr1, hF⟩ := bind_some hF
  refine ns ?_
  refine Exists.intro [] (Exists.intro [(1001, 1000), (1002, 1001), (1003, 1002)] (Exists.intro [] ?_))
  refine st ?_
  refine cm (Zn.weak (rn []) (ZcM v0_ v1_.fBody _ hr1) rfl (WS.mk (tp (Zj (ZaM (lc (lc (lc (lc (lc (lc (lc Zr)))))))) Ze)) (Za rfl (cc (cc (cc Zb))) (Za rfl (cc Zb) (Za rfl (cc Zb) Zf))))) ?_
  refine st ?_
  obtain rfl := Zs hF
  refine Exists.intro [(1000, 1000), (1001, 1001), (1002, 1002), (1003, 1003), (1004, 1004)] ?_
  refine st ?_
  exact wx (WS.mk (Zj (Zb1 Zb3) Ze) (Za rfl (cc Zb) (Za rfl (cc (cc (cc Zb))) (Za rfl (cc Zb) (Za rfl (cc Zb) (Za rfl (cc (cc (cc (cc (cc (cc (cc (cc (cc (cc (cc Zb))))))))))) Zf))))))
 ·intro stg_checker_expr_1__l1' Zel v0_ v1_ r hF
  unfold ZcL.M
  refine en Tryz.func114 ?_
  refine AWP.seq ?_
  refine ns ?_
  intro hlen1
  (try rw [List.length_map] at hlen1)
  (try rw [List.length_map])
  refine st ?_
  refine AWP.block ?_
  refine AWP.loop ?_
  refine AWL.weak (rn []) ?_ (Zel v0_ 0 v1_.fbad v1_.fcons v1_.flocal v0_.fBinds _ hF ([]) rfl rfl hlen1)
  exact (WS.mk (tp (tc (tc (tc Ze)))) (Za rfl (cc (cc (cc (cc (cc (cc (cc Zb))))))) (Za rfl (cc Zb) (Za rfl (cc (cc (cc Zb))) (Za rfl (cc Zb) (Za rfl (cc Zb) Zf))))))
 ·intro stg_checker_bind' stg_checker_expr_1__l1' ZlJ Zel v0_ x_7 Z1 Zk Zv ZcZ r hF
  unfold Zca.M
  intro Zd2 Zik Zim hlen1
  refine AWL.step ?_
  refine AWP.seq ?_
  refine ns ?_
  refine AWP.seq ?_
  refine nw ?_
  refine ZB Zik Zim (fun x11 Zo9 Zow ZvN ZuQ => ?_) (fun Zow => ?_)
  ·subst Zow
   refine nw ?_
   refine AWP.seq ?_
   refine AWP.block ?_
   refine AWP.seq ?_
   refine nn ?_
   refine sr (Z9 (f := Zc.cells) (Zc.cells_eq x11) ZvN) ?_
   refine st ?_
   obtain ⟨r14, Zm8, hF⟩ := bind_some hF
   refine ns ?_
   refine Exists.intro [] (Exists.intro [(1002, 1000), (1003, 1001), (1004, 1002)] (Exists.intro [] ?_))
   refine st ?_
   refine cm (Zn.weak (rn []) (ZlJ (Zh.mk Zk Zv Z1) x11 false _ Zm8) rfl (WS.mk (tp (Zj (ZaM (lc (lc (lc (lc (lc (lc (lc (lc (lc (lc (lc Zr)))))))))))) (tc Ze))) (Za rfl (cc (cc (cc Zb))) (Za rfl (cc Zb) (Za rfl (cc Zb) Zf))))) ?_
   refine st ?_
   refine ns ?_
   refine AWL.weak (rn []) ?_ (Zel v0_ (x_7 + 1) r14.fbad r14.fcons r14.flocal Zo9 _ hF (Zd2 ++ [x11]) (by rw [Zik]; simp) (by rw [Zim]; simp) hlen1)
   exact (WS.mk (tp (tc (tc (Zj (Zaj (Zcw (ZD hlen1 ZuQ))) Ze)))) (Za rfl (cc (cc (cc (cc (cc (cc (cc Zb))))))) (Za rfl (cc Zb) (Za rfl (cc (cc (cc Zb))) (Za rfl (cc Zb) (Za rfl (cc Zb) Zf))))))
  ·subst Zow
   refine nw ?_
   obtain rfl := Zs hF
   refine Exists.intro [(1000, 1000), (1001, 1001), (1002, 1002), (1003, 1003), (1004, 1004)] ?_
   refine st ?_
   exact wx (WS.mk (Zj (Zb1 Zb3) Ze) (Za rfl (cc (cc (cc (cc (cc (cc (cc Zb))))))) (Za rfl (cc Zb) (Za rfl (cc (cc (cc Zb))) (Za rfl (cc Zb) (Za rfl (cc Zb) Zf))))))
 ·intro stg_scope_with_stg_checker_expr_2' Zf5 r70 e ZK ZJ Zp r hF
  unfold ZcO.M
  intro hlen35
  obtain ⟨r78, ZxP, hF⟩ := bind_some hF
  refine ns ?_
  refine Exists.intro [6] (Exists.intro [(2, 1000), (1000, 1001), (1001, 1002), (1002, 1003), (3, 1004)] (Exists.intro [] ?_))
  refine st ?_
  refine cm (Zn.weak (rn []) (Zf5 r70 (Zh.mk ZJ Zp ZK) e _ ZxP) rfl (WS.mk (tc (tc (tc Ze))) (Za rfl (cc Zb) (Za rfl (cc (cc (cc Zb))) (Za rfl (cc Zb) (Za rfl (cc Zb) (Za rfl (cc (cc (cc (cc (cc (cc (cc Zb))))))) Zf))))))) ?_
  refine st ?_
  obtain rfl := Zs hF
  refine Exists.intro [(1000, 1000), (1001, 1001), (1002, 1002)] ?_
  refine st ?_
  exact wx (WS.mk (Zj (Zb1 Zb3) Ze) (Za rfl (cc (cc (cc Zb))) (Za rfl (cc Zb) (Za rfl (cc Zb) Zf))))
 ·intro stg_scope_with_stg_checker_expr_2_l1' Zcr l g2_c0 g2_c1 r hF
  unfold Za1.M
  refine en Tryz.func78 ?_
  refine AWP.seq ?_
  refine AWP.seq ?_
  refine ns ?_
  intro hlen14
  (try rw [List.length_map] at hlen14)
  (try rw [List.length_map])
  refine st ?_
  refine AWP.block ?_
  refine AWP.loop ?_
  refine AWL.weak (rn []) ?_ (Zcr l 0 g2_c0 g2_c0.flocal g2_c1 l _ hF ([]) rfl rfl hlen14)
  exact (WS.mk (tc (tc (tc (tc (tc (tc Ze)))))) (Za rfl (cc Zb) (Za rfl (cc (cc (cc Zb))) (Za rfl (cc Zb) (Za rfl (cc Zb) (Za rfl (cc (cc (cc (cc (cc (cc (cc Zb))))))) Zf))))))
 ·intro stg_scope_with_stg_checker_expr_2_l1' stg_checker_expr_2_' Zcr ZjR l ZaS g2_c0 Zk g2_c1 ZF r hF
  unfold ZaA.M
  intro Zag Zb5 Zb6 hlen14
  refine AWL.step ?_
  refine AWP.seq ?_
  refine ns ?_
  refine AWP.seq ?_
  refine nw ?_
  refine ZB Zb5 Zb6 (fun x24 Zeb Zea Ziv Zio => ?_) (fun Zea => ?_)
  ·subst Zea
   refine nw ?_
   refine AWP.seq ?_
   refine AWP.block ?_
   refine AWP.seq ?_
   refine nn ?_
   refine sr (Z9 (f := c_S) rfl Ziv) ?_
   refine st ?_
   obtain ⟨r27, Zil, hF⟩ := bind_some hF
   refine ns ?_
   refine ZbB (m := Zk) (k := x24) Zay (ev := Zm) Zil rfl (fun x => ZaO x) rfl rfl (lc Zr) ?_
   refine st ?_
   refine ZcI (m := Zk) (k := x24) (v := (IntKind.i64.wrap (r27.1 + 1))) Zay (ev := Zm) (lc Zr) ?_
   refine st ?_
   refine ns ?_
   refine AWL.weak (rn []) ?_ (Zcr l (ZaS + 1) g2_c0 (ZcQ Zk x24 (IntKind.i64.wrap (r27.1 + 1))) g2_c1 Zeb _ hF (Zag ++ [x24]) (by rw [Zb5]; simp) (by rw [Zb6]; simp) hlen14)
   exact (WS.mk (tc (tc (tc (tc (tc (Zj (Zaj (Zcw (ZD hlen14 Zio))) Ze)))))) (Za rfl (cc Zb) (Za rfl (cc (cc (cc Zb))) (Za rfl (cc Zb) (Za rfl (cc Zb) (Za rfl (cc (cc (cc (cc (cc (cc (cc Zb))))))) Zf))))))
  ·subst Zea
   refine nw ?_
   refine AWP.seq ?_
   obtain ⟨r28, Zis, hF⟩ := bind_some hF
   refine ns ?_
   refine Exists.intro [] (Exists.intro [(1000, 1000), (1001, 1001), (1002, 1002), (1003, 1003), (1004, 1004)] (Exists.intro [] ?_))
   refine st ?_
   refine cm (Zn.weak (rn []) (ZjR (Zh.mk g2_c0.fcons Zk g2_c0.fbad) g2_c1 _ Zis) rfl (WS.mk (tp (tp Ze)) (Za rfl (cc Zb) (Za rfl (cc (cc (cc Zb))) (Za rfl (cc Zb) (Za rfl (cc Zb) (Za rfl (cc (cc (cc (cc (cc (cc (cc Zb))))))) Zf))))))) ?_
   refine st ?_
   refine AWP.seq ?_
   refine ns ?_
   intro hlen29
   (try rw [List.length_map] at hlen29)
   (try rw [List.length_map])
   refine st ?_
   refine AWP.block ?_
   refine AWP.loop ?_
   refine AWL.weak (rn []) ?_ (Zfv l 0 r28 r28.flocal g2_c1 l _ hF ([]) rfl rfl hlen29)
   exact (WS.mk (tc (tc (tc (tc Ze)))) (Za rfl (cc Zb) (Za rfl (cc (cc (cc Zb))) (Za rfl (cc Zb) (Za rfl (cc Zb) (Za rfl (cc (cc (cc (cc (cc (cc (cc Zb))))))) Zf))))))
 ·intro stg_checker_expr' ZcM v0_ v1_ r hF
  unfold Zds.M
  refine en Tryz.func115 ?_
  obtain ⟨x3, Zzf, hx3, hF⟩ := ZiQ hF
  obtain ⟨r4, hr4, hF⟩ := bind_some hF
  refine nn ?_
  refine Or.inl (Or.inl (Exists.intro 5 (Exists.intro [[], [], [], [], []] (Exists.intro [([2, 3, 4, 5, 6], [], []), ([2, 3, 4, 5, 6], [], []), ([2, 4, 5, 6], [], []), ([2, 5, 6], [], []), ([2, 6], [], [])] (Exists.intro [2, 3, 4, 5, 6] (And.intro (by decide +kernel) ?_))))))
  refine dp ?_
  refine dp ?_
  refine dp ?_
  refine dr (ZhL (Zo.cells_eq x3) hx3) ?_
  refine dp ?_
  refine st ?_
  refine Exists.intro [] (Exists.intro [(1001, 1000), (1002, 1001), (1003, 1002)] (Exists.intro [] ?_))
  refine st ?_
  refine cm (Zn.weak (rn []) (ZcM v0_ x3 _ hr4) rfl (WS.mk (tp (Zj (ZaM (lc (lc (lc (lc (lc (lc (lc Zr)))))))) Ze)) (Za rfl (cc (cc (cc Zb))) (Za rfl (cc Zb) (Za rfl (cc Zb) Zf))))) ?_
  refine st ?_
  obtain rfl := Zs hF
  refine Exists.intro [(1000, 1000), (1001, 1001), (1002, 1002), (1003, 1003), (1004, 1004)] ?_
  refine st ?_
  exact wx (WS.mk (Zj (Zb1 Zb3) Ze) (Za rfl (cc Zb) (Za rfl (cc (cc (cc Zb))) (Za rfl (cc Zb) (Za rfl (cc Zb) (Za rfl (cc (cc (cc (cc (cc (cc (cc Zb))))))) Zf))))))
 ·intro stg_scope_with_stg_checker_expr_1_l1' Zcu l g2_c0 g2_c1 r hF
  unfold Za2.M
  refine en Tryz.func78 ?_
  refine AWP.seq ?_
  refine AWP.seq ?_
  refine ns ?_
  intro hlen14
  (try rw [List.length_map] at hlen14)
  (try rw [List.length_map])
  refine st ?_
  refine AWP.block ?_
  refine AWP.loop ?_
  refine AWL.weak (rn []) ?_ (Zcu l 0 g2_c0 g2_c1 g2_c1.flocal l _ hF ([]) rfl rfl hlen14)
  exact (WS.mk (tc (tc (tc (tc (tc (tc Ze)))))) (Za rfl (cc (cc (cc (cc (cc (cc (cc Zb))))))) (Za rfl (cc Zb) (Za rfl (cc (cc (cc Zb))) (Za rfl (cc Zb) (Za rfl (cc Zb) Zf))))))
 ·intro stg_checker_expr_1_' stg_scope_with_stg_checker_expr_1_l1' ZeU Zcu l ZaS g2_c0 g2_c1 Zv ZF r hF
  unfold ZaB.M
  intro Zag Zb5 Zb6 hlen14
  refine AWL.step ?_
  refine AWP.seq ?_
  refine ns ?_
  refine AWP.seq ?_
  refine nw ?_
  refine ZB Zb5 Zb6 (fun x24 Zeb Zea Ziv Zio => ?_) (fun Zea => ?_)
  ·subst Zea
   refine nw ?_
   refine AWP.seq ?_
   refine AWP.block ?_
   refine AWP.seq ?_
   refine nn ?_
   refine sr (Z9 (f := c_S) rfl Ziv) ?_
   refine st ?_
   obtain ⟨r27, Zil, hF⟩ := bind_some hF
   refine ns ?_
   refine ZbB (m := Zv) (k := x24) Zay (ev := Zm) Zil rfl (fun x => ZaO x) rfl rfl (lc Zr) ?_
   refine st ?_
   refine ZcI (m := Zv) (k := x24) (v := (IntKind.i64.wrap (r27.1 + 1))) Zay (ev := Zm) (lc Zr) ?_
   refine st ?_
   refine ns ?_
   refine AWL.weak (rn []) ?_ (Zcu l (ZaS + 1) g2_c0 g2_c1 (ZcQ Zv x24 (IntKind.i64.wrap (r27.1 + 1))) Zeb _ hF (Zag ++ [x24]) (by rw [Zb5]; simp) (by rw [Zb6]; simp) hlen14)
   exact (WS.mk (tc (tc (tc (tc (tc (Zj (Zaj (Zcw (ZD hlen14 Zio))) Ze)))))) (Za rfl (cc (cc (cc (cc (cc (cc (cc Zb))))))) (Za rfl (cc Zb) (Za rfl (cc (cc (cc Zb))) (Za rfl (cc Zb) (Za rfl (cc Zb) Zf))))))
  ·subst Zea
   refine nw ?_
   refine AWP.seq ?_
   obtain ⟨r28, Zis, hF⟩ := bind_some hF
   refine ns ?_
   refine Exists.intro [] (Exists.intro [(1000, 1000), (1001, 1001), (1002, 1002), (1003, 1003), (1004, 1004)] (Exists.intro [] ?_))
   refine st ?_
   refine cm (Zn.weak (rn []) (ZeU g2_c0 (Zh.mk g2_c1.fcons Zv g2_c1.fbad) _ Zis) rfl (WS.mk (tp (tp Ze)) (Za rfl (cc (cc (cc (cc (cc (cc (cc Zb))))))) (Za rfl (cc Zb) (Za rfl (cc (cc (cc Zb))) (Za rfl (cc Zb) (Za rfl (cc Zb) Zf))))))) ?_
   refine st ?_
   refine AWP.seq ?_
   refine ns ?_
   intro hlen29
   (try rw [List.length_map] at hlen29)
   (try rw [List.length_map])
   refine st ?_
   refine AWP.block ?_
   refine AWP.loop ?_
   refine AWL.weak (rn []) ?_ (Zfu l 0 g2_c0 r28 r28.flocal l _ hF ([]) rfl rfl hlen29)
   exact (WS.mk (tc (tc (tc (tc Ze)))) (Za rfl (cc (cc (cc (cc (cc (cc (cc Zb))))))) (Za rfl (cc Zb) (Za rfl (cc (cc (cc Zb))) (Za rfl (cc Zb) (Za rfl (cc Zb) Zf))))))
theorem ZlP : ∀ (c : Zh) (b : Zc) (top : Bool), ∀ r, Zbq c b top = some r → Zbq.M c b top r := ZkM.1

def ZcX (p : ZG) (ZiJ : Nat) (ZcK : (List (ByteArray × Int))) (ZcT : (List (ByteArray × Int))) (ZcP : Bool) (Ze1 : (List Zc)) : Option (Int) :=
 (match Ze1 with
 | Zsh :: ZuE =>
 Zae (Zh.mk ZcK ZcT ZcP) (((Zsh.fFree.length : Nat) : Int) == 0) >>= fun ZrV =>
 Zbq ZrV Zsh true >>= fun ZsO =>
 ZcX p (ZiJ + 1) ZsO.fcons ZsO.flocal ZsO.fbad ZuE
 | [] =>
 if ZcP = true then
 some 1
 else
 some 0)
 partial_fixpoint
def ZcX.M (p : ZG) (ZiJ : Nat) (ZcK : (List (ByteArray × Int))) (ZcT : (List (ByteArray × Int))) (ZcP : Bool) (Ze1 : (List Zc)) (r : Int) : Prop :=
 ∀ Zlx : List Zc, p.fBinds = Zlx ++ Ze1 → ZiJ = Zlx.length → p.fBinds.length ≤ maxLen → p.fCons.length ≤ maxLen → AWL Tryz.prog 120 (Code.sub (Zt Tryz.f22) [1, 1, 1, 1, 1, 1, 1, 0, 1, 0, 0]) (Code.cont Tryz.prog 120 (Zt Tryz.f22) [1, 1, 1, 1, 1, 1, 1, 0, 1, 0] (Zbl tab Tryz.f22.results (Zbo (.c none (.v (.int .i64 r))) []))) ⟨[(6, .ptr 47 0), (100, .c none (.sl (p.fBinds.map Zc.cells))), (101, .c none (.v (.int .i64 ((p.fBinds.length : Nat) : Int)))), (102, .c none (.v (.int .i64 ((ZiJ : Nat) : Int))))], [(44, [(none, .ob 165 (ZcK.map (Zz c_S Zm)))]), (45, [(none, .ob 167 (ZcT.map (Zz c_S Zm)))]), (47, [(none, .rf 44), (none, .rf 45), (none, .v (.bool ZcP))])]⟩
theorem ZnW (p : ZG) (ZiJ : Nat) (ZcK : (List (ByteArray × Int))) (ZcT : (List (ByteArray × Int))) (ZcP : Bool) (Ze1 : (List Zc)) : ∀ r, ZcX p ZiJ ZcK ZcT ZcP Ze1 = some r → ZcX.M p ZiJ ZcK ZcT ZcP Ze1 r := by
 refine ZcX.partial_correctness p (fun ZiJ ZcK ZcT ZcP Ze1 r => ZcX.M p ZiJ ZcK ZcT ZcP Ze1 r) ?_ ZiJ ZcK ZcT ZcP Ze1
 intro stg_Check_l3' ZjD ZiJ ZcK ZcT ZcP Ze1 r hF
 have Zod := fun (_p : ZG) (ZiJ : Nat) (ZcK : (List (ByteArray × Int))) (ZcT : (List (ByteArray × Int))) (ZcP : Bool) (Ze1 : (List Zc)) => ZjD ZiJ ZcK ZcT ZcP Ze1
 clear ZjD
 unfold ZcX.M
 intro Zlx ZrQ ZrP hlen130 hlen82
 refine AWL.step ?_
 refine AWP.seq ?_
 refine ns ?_
 refine AWP.seq ?_
 refine nw ?_
 refine ZB ZrQ ZrP (fun Zsh ZuE Zwo Zwm Zzv => ?_) (fun Zwo => ?_)
 ·subst Zwo
  refine nw ?_
  refine AWP.seq ?_
  refine AWP.block ?_
  refine AWP.seq ?_
  refine nn ?_
  refine sr (Z9 (f := Zc.cells) (Zc.cells_eq Zsh) Zwm) ?_
  refine st ?_
  refine AWP.seq ?_
  obtain ⟨ZrV, Zwg, hF⟩ := bind_some hF
  refine ns ?_
  intro hlen147
  (try rw [List.length_map] at hlen147)
  (try rw [List.length_map])
  refine st ?_
  refine Exists.intro [] (Exists.intro [(47, 1000), (44, 1001), (45, 1002)] (Exists.intro [] ?_))
  refine st ?_
  refine cm (Zn.weak (rn []) (Z8 (Zh.mk ZcK ZcT ZcP) (((Zsh.fFree.length : Nat) : Int) == 0) _ Zwg) rfl (WS.mk (tp (tc Ze)) (Za rfl (cc (cc (cc Zb))) (Za rfl (cc Zb) (Za rfl (cc Zb) Zf))))) ?_
  refine st ?_
  obtain ⟨ZsO, Zz2, hF⟩ := bind_some hF
  refine ns ?_
  refine Exists.intro [] (Exists.intro [(47, 1000), (44, 1001), (45, 1002)] (Exists.intro [] ?_))
  refine st ?_
  refine cm (Zn.weak (rn []) (ZlP ZrV Zsh true _ Zz2) rfl (WS.mk (tp (Zj (ZaM (lc (lc (lc (lc (lc (lc (lc (lc (lc (lc (lc Zr)))))))))))) (tc Ze))) (Za rfl (cc (cc (cc Zb))) (Za rfl (cc Zb) (Za rfl (cc Zb) Zf))))) ?_
  refine st ?_
  refine ns ?_
  refine AWL.weak (rn []) ?_ (Zod p (ZiJ + 1) ZsO.fcons ZsO.flocal ZsO.fbad ZuE _ hF (Zlx ++ [Zsh]) (by rw [ZrQ]; simp) (by rw [ZrP]; simp) hlen130 hlen82)
  exact (WS.mk (tp (tc (tc (Zj (Zaj (Zcw (ZD hlen130 Zzv))) Ze)))) (Za rfl (cc Zb) (Za rfl (cc Zb) (Za rfl (cc (cc (cc Zb))) Zf))))
 ·subst Zwo
  refine nw ?_
  refine AWP.seq ?_
  refine AWP.seq ?_
  refine ns ?_
  refine nw ?_
  refine Zw hF (fun Zzl hF => ?_) (fun Zzl hF => ?_)
  ·refine AWP.seq ?_
   refine ns ?_
   obtain rfl := Zs hF
   refine ns ?_
   refine Exists.intro [] ?_
   refine st ?_
   exact wx (WS.mk (tc Ze) Zf)
  ·refine nw ?_
   refine AWP.seq ?_
   refine ns ?_
   obtain rfl := Zs hF
   refine ns ?_
   refine Exists.intro [] ?_
   refine st ?_
   exact wx (WS.mk (tc Ze) Zf)

def ZcW (p : ZG) (Zl0 : Nat) (ZcK : (List (ByteArray × Int))) (ZcT : (List (ByteArray × Int))) (ZcP : Bool) (Zgv : (List ZT)) : Option (Int) :=
 (match Zgv with
 | x98 :: ZxF =>
 Zcf ZcK 0 x98.fName >>= fun Zuo =>
 Zdy x98.fName >>= fun Zt5 =>
 Zae (Zh.mk ZcK ZcT ZcP) (((Zt5 && (!Zuo.2)) && (decide (x98.fTag ≥ 0))) && (decide (x98.fArity ≥ 0))) >>= fun Zov =>
 ZcW p (Zl0 + 1) (ZcQ Zov.fcons x98.fName x98.fArity) Zov.flocal Zov.fbad ZxF
 | [] =>
 ZeL p.fBinds >>= fun ZyP =>
 ZcV ZyP >>= fun ZyE =>
 Zae (Zh.mk ZcK ZcT ZcP) ZyE >>= fun ZsS =>
 ZcX p 0 ZsS.fcons ZsS.flocal ZsS.fbad p.fBinds)
 partial_fixpoint
def ZcW.M (p : ZG) (Zl0 : Nat) (ZcK : (List (ByteArray × Int))) (ZcT : (List (ByteArray × Int))) (ZcP : Bool) (Zgv : (List ZT)) (r : Int) : Prop :=
 ∀ Zml : List ZT, p.fCons = Zml ++ Zgv → Zl0 = Zml.length → p.fBinds.length ≤ maxLen → p.fCons.length ≤ maxLen → AWL Tryz.prog 120 (Code.sub (Zt Tryz.f22) [1, 1, 1, 1, 1, 0, 1, 0, 0]) (Code.cont Tryz.prog 120 (Zt Tryz.f22) [1, 1, 1, 1, 1, 0, 1, 0] (Zbl tab Tryz.f22.results (Zbo (.c none (.v (.int .i64 r))) []))) ⟨[(1, .ptr 1 0), (6, .ptr 47 0), (49, .c none (.sl (p.fCons.map ZT.cells))), (50, .c none (.v (.int .i64 ((p.fCons.length : Nat) : Int)))), (51, .c none (.v (.int .i64 ((Zl0 : Nat) : Int))))], [(1, [(none, .sl (p.fCons.map ZT.cells)), (none, .sl (p.fBinds.map Zc.cells))]), (44, [(none, .ob 165 (ZcK.map (Zz c_S Zm)))]), (45, [(none, .ob 167 (ZcT.map (Zz c_S Zm)))]), (47, [(none, .rf 44), (none, .rf 45), (none, .v (.bool ZcP))])]⟩
theorem Zn4 (p : ZG) (Zl0 : Nat) (ZcK : (List (ByteArray × Int))) (ZcT : (List (ByteArray × Int))) (ZcP : Bool) (Zgv : (List ZT)) : ∀ r, ZcW p Zl0 ZcK ZcT ZcP Zgv = some r → ZcW.M p Zl0 ZcK ZcT ZcP Zgv r := by
 refine ZcW.partial_correctness p (fun Zl0 ZcK ZcT ZcP Zgv r => ZcW.M p Zl0 ZcK ZcT ZcP Zgv r) ?_ Zl0 ZcK ZcT ZcP Zgv
 intro stg_Check_l2' Zjq Zl0 ZcK ZcT ZcP Zgv r hF
 have Zob := fun (_p : ZG) (Zl0 : Nat) (ZcK : (List (ByteArray × Int))) (ZcT : (List (ByteArray × Int))) (ZcP : Bool) (Zgv : (List ZT)) => Zjq Zl0 ZcK ZcT ZcP Zgv
 clear Zjq
 unfold ZcW.M
 intro Zml Ztn ZtE hlen26 hlen82
 refine AWL.step ?_
 refine AWP.seq ?_
 refine ns ?_
 refine AWP.seq ?_
 refine nw ?_
 refine ZB Ztn ZtE (fun x98 ZxF Zvs Zzo ZzT => ?_) (fun Zvs => ?_)
 ·subst Zvs
  refine nw ?_
  refine AWP.seq ?_
  refine AWP.block ?_
  refine AWP.seq ?_
  refine nn ?_
  refine sr (Z9 (f := ZT.cells) (ZT.cells_eq x98) Zzo) ?_
  refine st ?_
  refine AWP.seq ?_
  obtain ⟨Zuo, ZAI, hF⟩ := bind_some hF
  refine nn ?_
  refine Or.inl (Or.inl (Exists.intro 11 (Exists.intro [[], [], [], [], [], [], [], [], [], [], []] (Exists.intro [([56, 57, 58, 59, 60, 61, 62, 55, 63, 64, 9], [], []), ([57, 58, 59, 60, 61, 62, 55, 63, 64, 9], [], []), ([58, 59, 60, 61, 62, 55, 63, 64, 9], [], []), ([59, 60, 61, 62, 55, 63, 64, 9], [], []), ([56, 57, 58, 59, 60, 61, 62, 55, 63, 64, 9], [], []), ([56, 57, 58, 59, 61, 62, 55, 63, 64, 9], [], []), ([62, 55, 63, 64, 9], [], []), ([55, 63, 64, 9], [], []), ([63, 64, 9], [], []), ([63, 64, 9], [], []), ([64, 9], [], [])] (Exists.intro [56, 57, 58, 59, 60, 61, 62, 55, 63, 64, 9] (And.intro (by decide +kernel) ?_))))))
  refine dp ?_
  refine dp ?_
  refine dp ?_
  refine dp ?_
  refine dp ?_
  refine dp ?_
  (refine st ?_; apply Exists.intro; apply Exists.intro; apply And.intro; (focus (((repeat (first | ((conv => whnf); (with_reducible refine And.intro ?_ ?_); (focus (first | exact Eq.refl _ | exact trivial | (with_reducible assumption) | (with_reducible exact Int.natCast_nonneg _) | exact Nat.le_of_ble_eq_true (Eq.refl true) | exact Zfy (Eq.refl _) (Eq.refl _) (Eq.refl _) | decide))))); (conv => whnf)) <;> (refine ZbB (m := ZcK) (k := x98.fName) Zay (ev := Zm) ZAI rfl (fun x => ZaO x) rfl rfl (lc Zr) ?_) <;> ((repeat (first | ((conv => whnf); (with_reducible refine And.intro ?_ ?_); (focus (first | exact Eq.refl _ | exact trivial | (with_reducible assumption) | (with_reducible exact Int.natCast_nonneg _) | exact Nat.le_of_ble_eq_true (Eq.refl true) | exact Zfy (Eq.refl _) (Eq.refl _) (Eq.refl _) | decide))))); (conv => whnf)) <;> (exact rfl))); apply And.intro; (focus exact rfl); (conv => whnf))
  refine dp ?_
  refine dp ?_
  refine dp ?_
  refine dp ?_
  refine st ?_
  refine AWP.seq ?_
  obtain ⟨Zt5, ZzZ, hF⟩ := bind_some hF
  obtain ⟨Zov, ZtQ, hF⟩ := bind_some hF
  refine AWP.cutN (fun T => ∃ r, WS r T ⟨[(1, .ptr 1 0), (6, .ptr 47 0), (8, .ptr 8 0), (49, .c none (.sl (p.fCons.map ZT.cells))), (50, .c none (.v (.int .i64 ((p.fCons.length : Nat) : Int)))), (51, .c none (.v (.int .i64 ((Zl0 : Nat) : Int))))], [(1, [(none, .sl (p.fCons.map ZT.cells)), (none, .sl (p.fBinds.map Zc.cells))]), (8, [(none, .v (.string x98.fName)), (none, .v (.int .i64 x98.fTag)), (none, .v (.int .i64 x98.fArity))]), (44, [(none, .ob 165 (Zov.fcons.map (Zz c_S Zm)))]), (45, [(none, .ob 167 (Zov.flocal.map (Zz c_S Zm)))]), (47, [(none, .rf 44), (none, .rf 45), (none, .v (.bool Zov.fbad))])]⟩) ?_ (fun T hw => ?_)
  ·refine ns ?_
   refine e3 ?_
   refine st ?_
   refine cm (Zn.weak (rn []) (ZfP x98.fName _ ZzZ) rfl (WS.mk (tc Ze) Zf)) ?_
   refine st ?_
   refine ZA true (fun ZmT => ?_) (fun ZmT => ?_)
   ·(conv => whnf)
    refine st ?_
    refine ZA true (fun Zpl => ?_) (fun Zpl => ?_)
    ·(conv => whnf)
     refine st ?_
     refine ZA true (fun Zsc => ?_) (fun Zsc => ?_)
     ·(conv => whnf)
      refine st ?_
      refine Exists.intro [] (Exists.intro [(47, 1000), (44, 1001), (45, 1002)] (Exists.intro [] ?_))
      refine st ?_
      refine cm (Zn.weak (rn []) (Z8 (Zh.mk ZcK ZcT ZcP) (((Zt5 && (!Zuo.2)) && (decide (x98.fTag ≥ 0))) && (decide (x98.fArity ≥ 0))) _ ZtQ) rfl (WS.mk (tp (Zj (Zaj (web (And.intro ZmT (And.intro Zpl Zsc)))) Ze)) (Za rfl (cc (cc (Zlo (web (And.intro ZmT (And.intro Zpl Zsc))) Zb))) (Za rfl (cc Zb) (Za rfl (cc Zb) Zf))))) ?_
      refine st ?_
      exact wx (WS.mk (tp (tp (tp (tc (tc (tc Ze)))))) (Za rfl (cc (cc Zb)) (Za rfl (cc (cc (cc Zb))) (Za rfl (cc Zb) (Za rfl (cc Zb) (Za rfl (cc (cc (cc Zb))) Zf))))))
     ·(conv => whnf)
      refine st ?_
      refine Exists.intro [] (Exists.intro [(47, 1000), (44, 1001), (45, 1002)] (Exists.intro [] ?_))
      refine st ?_
      refine cm (Zn.weak (rn []) (Z8 (Zh.mk ZcK ZcT ZcP) (((Zt5 && (!Zuo.2)) && (decide (x98.fTag ≥ 0))) && (decide (x98.fArity ≥ 0))) _ ZtQ) rfl (WS.mk (tp (Zj (Zaj (web (And.intro ZmT (And.intro Zpl Zsc)))) Ze)) (Za rfl (cc (cc (Zlo (web (And.intro ZmT (And.intro Zpl Zsc))) Zb))) (Za rfl (cc Zb) (Za rfl (cc Zb) Zf))))) ?_
      refine st ?_
      exact wx (WS.mk (tp (tp (tp (tc (tc (tc Ze)))))) (Za rfl (cc (cc Zb)) (Za rfl (cc (cc (cc Zb))) (Za rfl (cc Zb) (Za rfl (cc Zb) (Za rfl (cc (cc (cc Zb))) Zf))))))
    ·(conv => whnf)
     refine st ?_
     refine Exists.intro [] (Exists.intro [(47, 1000), (44, 1001), (45, 1002)] (Exists.intro [] ?_))
     refine st ?_
     refine cm (Zn.weak (rn []) (Z8 (Zh.mk ZcK ZcT ZcP) (((Zt5 && (!Zuo.2)) && (decide (x98.fTag ≥ 0))) && (decide (x98.fArity ≥ 0))) _ ZtQ) rfl (WS.mk (tp (Zj (Zaj (web (And.intro ZmT Zpl))) Ze)) (Za rfl (cc (cc (Zlo (web (And.intro ZmT Zpl)) Zb))) (Za rfl (cc Zb) (Za rfl (cc Zb) Zf))))) ?_
     refine st ?_
     exact wx (WS.mk (tp (tp (tp (tc (tc (tc Ze)))))) (Za rfl (cc (cc Zb)) (Za rfl (cc (cc (cc Zb))) (Za rfl (cc Zb) (Za rfl (cc Zb) (Za rfl (cc (cc (cc Zb))) Zf))))))
   ·(conv => whnf)
    refine st ?_
    refine Exists.intro [] (Exists.intro [(47, 1000), (44, 1001), (45, 1002)] (Exists.intro [] ?_))
    refine st ?_
    refine cm (Zn.weak (rn []) (Z8 (Zh.mk ZcK ZcT ZcP) (((Zt5 && (!Zuo.2)) && (decide (x98.fTag ≥ 0))) && (decide (x98.fArity ≥ 0))) _ ZtQ) rfl (WS.mk (tp (Zj (Zaj (web ZmT)) Ze)) (Za rfl (cc (cc (Zlo (web ZmT) Zb))) (Za rfl (cc Zb) (Za rfl (cc Zb) Zf))))) ?_
    refine st ?_
    exact wx (WS.mk (tp (tp (tp (tc (tc (tc Ze)))))) (Za rfl (cc (cc Zb)) (Za rfl (cc (cc (cc Zb))) (Za rfl (cc Zb) (Za rfl (cc Zb) (Za rfl (cc (cc (cc Zb))) Zf))))))
  obtain ⟨r0, hw⟩ := hw
  (conv => whnf)
  refine AWP.weak r0 hw ?_
  refine nn ?_
  refine Or.inl (Or.inl (Exists.intro 8 (Exists.intro [[], [], [], [], [], [], [], []] (Exists.intro [([84, 85, 86, 87, 88, 89, 90, 91], [], []), ([85, 86, 87, 88, 89, 90, 91], [], []), ([86, 87, 88, 89, 90, 91], [], []), ([87, 88, 89, 90, 91], [], []), ([84, 85, 86, 87, 88, 89, 90, 91], [], []), ([84, 85, 86, 87, 89, 90, 91], [], []), ([84, 85, 86, 87, 88, 89, 90, 91], [], []), ([84, 85, 86, 87, 88, 89, 91], [], [])] (Exists.intro [84, 85, 86, 87, 88, 89, 90, 91] (And.intro (by decide +kernel) ?_))))))
  refine dp ?_
  refine dp ?_
  refine dp ?_
  refine dp ?_
  refine dp ?_
  refine dp ?_
  refine dp ?_
  refine dp ?_
  refine st ?_
  refine ZcI (m := Zov.fcons) (k := x98.fName) (v := x98.fArity) Zay (ev := Zm) (lc Zr) ?_
  refine st ?_
  refine ns ?_
  refine AWL.weak (rn []) ?_ (Zob p (Zl0 + 1) (ZcQ Zov.fcons x98.fName x98.fArity) Zov.flocal Zov.fbad ZxF _ hF (Zml ++ [x98]) (by rw [Ztn]; simp) (by rw [ZtE]; simp) hlen26 hlen82)
  exact (WS.mk (tp (tp (tc (tc (Zj (Zaj (Zcw (ZD hlen82 ZzT))) Ze))))) (Za rfl (cc (cc Zb)) (Za rfl (cc Zb) (Za rfl (cc Zb) (Za rfl (cc (cc (cc Zb))) Zf)))))
 ·subst Zvs
  refine nw ?_
  refine AWP.seq ?_
  obtain ⟨ZyP, ZzK, hF⟩ := bind_some hF
  obtain ⟨ZyE, ZzB, hF⟩ := bind_some hF
  obtain ⟨ZsS, ZAs, hF⟩ := bind_some hF
  refine ns ?_
  refine e3 ?_
  refine st ?_
  refine cm (Zn.weak (rn []) (ZjP p.fBinds _ ZzK) rfl (WS.mk (tc Ze) Zf)) ?_
  refine st ?_
  refine Exists.intro [96] (Exists.intro [] (Exists.intro [] ?_))
  refine st ?_
  refine cm (Zn.weak (rn []) (Zf0 ZyP _ ZzB) rfl (WS.mk (tc Ze) Zf)) ?_
  refine st ?_
  refine Exists.intro [] (Exists.intro [(47, 1000), (44, 1001), (45, 1002)] (Exists.intro [] ?_))
  refine st ?_
  refine cm (Zn.weak (rn []) (Z8 (Zh.mk ZcK ZcT ZcP) ZyE _ ZAs) rfl (WS.mk (tp (tc Ze)) (Za rfl (cc (cc (cc Zb))) (Za rfl (cc Zb) (Za rfl (cc Zb) Zf))))) ?_
  refine st ?_
  refine AWP.seq ?_
  refine AWP.seq ?_
  refine ns ?_
  intro hlen130
  (try rw [List.length_map] at hlen130)
  (try rw [List.length_map])
  refine st ?_
  refine AWP.block ?_
  refine AWP.loop ?_
  refine AWL.weak (rn []) ?_ (ZnW p 0 ZsS.fcons ZsS.flocal ZsS.fbad p.fBinds _ hF ([]) rfl rfl hlen130 hlen82)
  exact (WS.mk (tp (tc (tc (tc Ze)))) (Za rfl (cc Zb) (Za rfl (cc Zb) (Za rfl (cc (cc (cc Zb))) Zf))))

mutual
def ZcB (e : Zo) : Option (Int) :=
 Zdk 0 e 0 e.fKids
 partial_fixpoint
def Zdk (n_3 : Int) (e : Zo) (ZbL : Nat) (ZdR : (List Zo)) : Option (Int) :=
 (match ZdR with
 | x24 :: Zeb =>
 ZcB x24 >>= fun r27 =>
 Zdk (if r27 > n_3 then r27 else n_3) e (ZbL + 1) Zeb
 | [] =>
 Zdg n_3 e 0 e.fBinds)
 partial_fixpoint
def Zdg (n_3 : Int) (e : Zo) (Zad : Nat) (Zu : (List Zc)) : Option (Int) :=
 (match Zu with
 | x51 :: Zxq =>
 ZcB x51.fBody >>= fun r54 =>
 Zdg (if r54 > n_3 then r54 else n_3) e (Zad + 1) Zxq
 | [] =>
 Zdn n_3 e 0 e.fAlts)
 partial_fixpoint
def Zdn (n_3 : Int) (e : Zo) (Zqp : Nat) (ZjO : (List Zi)) : Option (Int) :=
 (match ZjO with
 | x65 :: Zx5 =>
 ZcB x65.fBody >>= fun r68 =>
 Zdn (if r68 > n_3 then r68 else n_3) e (Zqp + 1) Zx5
 | [] =>
 some (IntKind.i64.wrap (n_3 + 1)))
 partial_fixpoint
end
def ZcB.M (e : Zo) (r : Int) : Prop :=
 Zn Tryz.prog 47 [.agg [.v (.int .i64 e.fOp), .v (.string e.fName), .sl (e.fArgs.map Zq.cells), .v (.bool e.fRec), .sl (e.fBinds.map Zc.cells), .sl (e.fKids.map Zo.cells), .sl (e.fAlts.map Zi.cells)]] [] (fun d b => d = .c none (.v (.int .i64 r)) ∧ b = [])
def Zdk.M (n_3 : Int) (e : Zo) (ZbL : Nat) (ZdR : (List Zo)) (r : Int) : Prop :=
 ∀ ZgW : List Zo, e.fKids = ZgW ++ ZdR → ZbL = ZgW.length → e.fKids.length ≤ maxLen → AWL Tryz.prog 50 (Code.sub (Zt Tryz.f47) [1, 1, 0, 1, 0, 0]) (Code.cont Tryz.prog 50 (Zt Tryz.f47) [1, 1, 0, 1, 0] (Zbl tab Tryz.f47.results (Zbo (.c none (.v (.int .i64 r))) []))) ⟨[(1, .ptr 1 0), (3, .c none (.v (.int .i64 n_3))), (11, .c none (.sl (e.fKids.map Zo.cells))), (12, .c none (.v (.int .i64 ((e.fKids.length : Nat) : Int)))), (13, .c none (.v (.int .i64 ((ZbL : Nat) : Int))))], [(1, [(none, .v (.int .i64 e.fOp)), (none, .v (.string e.fName)), (none, .sl (e.fArgs.map Zq.cells)), (none, .v (.bool e.fRec)), (none, .sl (e.fBinds.map Zc.cells)), (none, .sl (e.fKids.map Zo.cells)), (none, .sl (e.fAlts.map Zi.cells))])]⟩
def Zdg.M (n_3 : Int) (e : Zo) (Zad : Nat) (Zu : (List Zc)) (r : Int) : Prop :=
 ∀ Z5 : List Zc, e.fBinds = Z5 ++ Zu → Zad = Z5.length → e.fKids.length ≤ maxLen → e.fBinds.length ≤ maxLen → AWL Tryz.prog 50 (Code.sub (Zt Tryz.f47) [1, 1, 1, 0, 1, 0, 0]) (Code.cont Tryz.prog 50 (Zt Tryz.f47) [1, 1, 1, 0, 1, 0] (Zbl tab Tryz.f47.results (Zbo (.c none (.v (.int .i64 r))) []))) ⟨[(1, .ptr 1 0), (3, .c none (.v (.int .i64 n_3))), (23, .c none (.sl (e.fBinds.map Zc.cells))), (24, .c none (.v (.int .i64 ((e.fBinds.length : Nat) : Int)))), (25, .c none (.v (.int .i64 ((Zad : Nat) : Int))))], [(1, [(none, .v (.int .i64 e.fOp)), (none, .v (.string e.fName)), (none, .sl (e.fArgs.map Zq.cells)), (none, .v (.bool e.fRec)), (none, .sl (e.fBinds.map Zc.cells)), (none, .sl (e.fKids.map Zo.cells)), (none, .sl (e.fAlts.map Zi.cells))])]⟩
def Zdn.M (n_3 : Int) (e : Zo) (Zqp : Nat) (ZjO : (List Zi)) (r : Int) : Prop :=
 ∀ Zmy : List Zi, e.fAlts = Zmy ++ ZjO → Zqp = Zmy.length → e.fKids.length ≤ maxLen → e.fBinds.length ≤ maxLen → e.fAlts.length ≤ maxLen → AWL Tryz.prog 50 (Code.sub (Zt Tryz.f47) [1, 1, 1, 1, 0, 1, 0, 0]) (Code.cont Tryz.prog 50 (Zt Tryz.f47) [1, 1, 1, 1, 0, 1, 0] (Zbl tab Tryz.f47.results (Zbo (.c none (.v (.int .i64 r))) []))) ⟨[(3, .c none (.v (.int .i64 n_3))), (36, .c none (.sl (e.fAlts.map Zi.cells))), (37, .c none (.v (.int .i64 ((e.fAlts.length : Nat) : Int)))), (38, .c none (.v (.int .i64 ((Zqp : Nat) : Int))))], []⟩
theorem ZnZ : (∀ (e : Zo), ∀ r, ZcB e = some r → ZcB.M e r) ∧ (∀ (n_3 : Int) (e : Zo) (ZbL : Nat) (ZdR : (List Zo)), ∀ r, Zdk n_3 e ZbL ZdR = some r → Zdk.M n_3 e ZbL ZdR r) ∧ (∀ (n_3 : Int) (e : Zo) (Zad : Nat) (Zu : (List Zc)), ∀ r, Zdg n_3 e Zad Zu = some r → Zdg.M n_3 e Zad Zu r) ∧ (∀ (n_3 : Int) (e : Zo) (Zqp : Nat) (ZjO : (List Zi)), ∀ r, Zdn n_3 e Zqp ZjO = some r → Zdn.M n_3 e Zqp ZjO r) := by
 refine ZcB.mutual_partial_correctness ZcB.M Zdk.M Zdg.M Zdn.M ?_ ?_ ?_ ?_
 ·intro stg_nesting_l1' Zg8 e r hF
  unfold ZcB.M
  refine en Tryz.func47 ?_
  refine AWP.seq ?_
  refine ns ?_
  refine AWP.seq ?_
  refine ns ?_
  refine AWP.seq ?_
  refine AWP.seq ?_
  refine ns ?_
  intro hlen14
  (try rw [List.length_map] at hlen14)
  (try rw [List.length_map])
  refine st ?_
  refine AWP.block ?_
  refine AWP.loop ?_
  refine AWL.weak (rn []) ?_ (Zg8 0 e 0 e.fKids _ hF ([]) rfl rfl hlen14)
  exact (WS.mk (tp (tc (tc (tc (tc Ze))))) (Za rfl (cc (cc (cc (cc (cc (cc (cc Zb))))))) Zf))
 ·intro stg_nesting' stg_nesting_l1' stg_nesting_l2' ZfG Zg8 ZgV n_3 e ZbL ZdR r hF
  unfold Zdk.M
  intro ZgW ZmD ZmP hlen14
  refine AWL.step ?_
  refine AWP.seq ?_
  refine ns ?_
  refine AWP.seq ?_
  refine nw ?_
  refine ZB ZmD ZmP (fun x24 Zeb Zea Ziv Zio => ?_) (fun Zea => ?_)
  ·subst Zea
   refine nw ?_
   refine AWP.seq ?_
   refine AWP.block ?_
   refine AWP.seq ?_
   refine nn ?_
   refine sr (Z9 (f := Zo.cells) (Zo.cells_eq x24) Ziv) ?_
   refine st ?_
   obtain ⟨r27, Zil, hF⟩ := bind_some hF
   refine ns ?_
   refine e3 ?_
   refine st ?_
   refine cm (Zn.weak (rn []) (ZfG x24 _ Zil) rfl (WS.mk (Zj (ZaM (lc (lc (lc (lc (lc (lc (lc Zr)))))))) Ze) Zf)) ?_
   refine st ?_
   refine ns ?_
   refine AWL.weak (rn []) ?_ (Zg8 (if r27 > n_3 then r27 else n_3) e (ZbL + 1) Zeb _ hF (ZgW ++ [x24]) (by rw [ZmD]; simp) (by rw [ZmP]; simp) hlen14)
   exact (WS.mk (tp (tc (tc (tc (Zj (Zaj (Zcw (ZD hlen14 Zio))) Ze))))) (Za rfl (cc (cc (cc (cc (cc (cc (cc Zb))))))) Zf))
  ·subst Zea
   refine nw ?_
   refine AWP.seq ?_
   refine AWP.seq ?_
   refine ns ?_
   intro hlen41
   (try rw [List.length_map] at hlen41)
   (try rw [List.length_map])
   refine st ?_
   refine AWP.block ?_
   refine AWP.loop ?_
   refine AWL.weak (rn []) ?_ (ZgV n_3 e 0 e.fBinds _ hF ([]) rfl rfl hlen14 hlen41)
   exact (WS.mk (tp (tc (tc (tc (tc Ze))))) (Za rfl (cc (cc (cc (cc (cc (cc (cc Zb))))))) Zf))
 ·intro stg_nesting' stg_nesting_l2' stg_nesting_l3' ZfG ZgV Zg0 n_3 e Zad Zu r hF
  unfold Zdg.M
  intro Z5 ZbI ZbJ hlen14 hlen41
  refine AWL.step ?_
  refine AWP.seq ?_
  refine ns ?_
  refine AWP.seq ?_
  refine nw ?_
  refine ZB ZbI ZbJ (fun x51 Zxq Zxs ZBs ZAP => ?_) (fun Zxs => ?_)
  ·subst Zxs
   refine nw ?_
   refine AWP.seq ?_
   refine AWP.block ?_
   refine AWP.seq ?_
   refine nn ?_
   refine sr (Z9 (f := Zc.cells) (Zc.cells_eq x51) ZBs) ?_
   refine st ?_
   obtain ⟨r54, ZxX, hF⟩ := bind_some hF
   refine ns ?_
   refine e3 ?_
   refine st ?_
   refine cm (Zn.weak (rn []) (ZfG x51.fBody _ ZxX) rfl (WS.mk (Zj (ZaM (lc (lc (lc (lc (lc (lc (lc Zr)))))))) Ze) Zf)) ?_
   refine st ?_
   refine ns ?_
   refine AWL.weak (rn []) ?_ (ZgV (if r54 > n_3 then r54 else n_3) e (Zad + 1) Zxq _ hF (Z5 ++ [x51]) (by rw [ZbI]; simp) (by rw [ZbJ]; simp) hlen14 hlen41)
   exact (WS.mk (tp (tc (tc (tc (Zj (Zaj (Zcw (ZD hlen41 ZAP))) Ze))))) (Za rfl (cc (cc (cc (cc (cc (cc (cc Zb))))))) Zf))
  ·subst Zxs
   refine nw ?_
   refine AWP.seq ?_
   refine AWP.seq ?_
   refine ns ?_
   intro hlen55
   (try rw [List.length_map] at hlen55)
   (try rw [List.length_map])
   refine st ?_
   refine AWP.block ?_
   refine AWP.loop ?_
   refine AWL.weak (rn []) ?_ (Zg0 n_3 e 0 e.fAlts _ hF ([]) rfl rfl hlen14 hlen41 hlen55)
   exact (WS.mk (tc (tc (tc (tc Ze)))) Zf)
 ·intro stg_nesting' stg_nesting_l3' ZfG Zg0 n_3 e Zqp ZjO r hF
  unfold Zdn.M
  intro Zmy ZtP Ztk hlen14 hlen41 hlen55
  refine AWL.step ?_
  refine AWP.seq ?_
  refine ns ?_
  refine AWP.seq ?_
  refine nw ?_
  refine ZB ZtP Ztk (fun x65 Zx5 Zx6 ZCi ZCb => ?_) (fun Zx6 => ?_)
  ·subst Zx6
   refine nw ?_
   refine AWP.seq ?_
   refine AWP.block ?_
   refine AWP.seq ?_
   refine nn ?_
   refine sr (Z9 (f := Zi.cells) (Zi.cells_eq x65) ZCi) ?_
   refine st ?_
   obtain ⟨r68, ZxG, hF⟩ := bind_some hF
   refine ns ?_
   refine e3 ?_
   refine st ?_
   refine cm (Zn.weak (rn []) (ZfG x65.fBody _ ZxG) rfl (WS.mk (Zj (ZaM (lc (lc (lc (lc (lc (lc (lc Zr)))))))) Ze) Zf)) ?_
   refine st ?_
   refine ns ?_
   refine AWL.weak (rn []) ?_ (Zg0 (if r68 > n_3 then r68 else n_3) e (Zqp + 1) Zx5 _ hF (Zmy ++ [x65]) (by rw [ZtP]; simp) (by rw [Ztk]; simp) hlen14 hlen41 hlen55)
   exact (WS.mk (tc (tc (tc (Zj (Zaj (Zcw (ZD hlen55 ZCb))) Ze)))) Zf)
  ·subst Zx6
   refine nw ?_
   refine AWP.seq ?_
   refine ns ?_
   obtain rfl := Zs hF
   refine ns ?_
   refine Exists.intro [] ?_
   refine st ?_
   exact wx (WS.mk (tc Ze) Zf)
theorem ZoE : ∀ (e : Zo), ∀ r, ZcB e = some r → ZcB.M e r := ZnZ.1

def Zdm (ZeS : Int) (p : ZG) (ZmL : Nat) (Zgs : (List Zc)) : Option (Int) :=
 (match Zgs with
 | x44 :: Zyu =>
 ZcB x44.fBody >>= fun r49 =>
 if (decide (r49 > 4000)) = true then
 some 4
 else
 ZaV x44.fBody >>= fun r51 =>
 Zdm (IntKind.i64.wrap (ZeS + r51)) p (ZmL + 1) Zyu
 | [] =>
 if (((decide (ZeS > 60000)) || (decide (((p.fCons.length : Nat) : Int) > 60000))) || (decide (((p.fBinds.length : Nat) : Int) > 60000))) = true then
 some 3
 else
 ZcW p 0 ([] : List (ByteArray × Int)) ([] : List (ByteArray × Int)) false p.fCons)
 partial_fixpoint
def Zdm.M (ZeS : Int) (p : ZG) (ZmL : Nat) (Zgs : (List Zc)) (r : Int) : Prop :=
 ∀ ZmA : List Zc, p.fBinds = ZmA ++ Zgs → ZmL = ZmA.length → p.fBinds.length ≤ maxLen → AWL Tryz.prog 120 (Code.sub (Zt Tryz.f22) [1, 1, 0, 1, 0, 0]) (Code.cont Tryz.prog 120 (Zt Tryz.f22) [1, 1, 0, 1, 0] (Zbl tab Tryz.f22.results (Zbo (.c none (.v (.int .i64 r))) []))) ⟨[(1, .ptr 1 0), (3, .c none (.v (.int .i64 ZeS))), (14, .c none (.sl (p.fBinds.map Zc.cells))), (15, .c none (.v (.int .i64 ((p.fBinds.length : Nat) : Int)))), (16, .c none (.v (.int .i64 ((ZmL : Nat) : Int))))], [(1, [(none, .sl (p.fCons.map ZT.cells)), (none, .sl (p.fBinds.map Zc.cells))])]⟩
theorem Zn9 (ZeS : Int) (p : ZG) (ZmL : Nat) (Zgs : (List Zc)) : ∀ r, Zdm ZeS p ZmL Zgs = some r → Zdm.M ZeS p ZmL Zgs r := by
 refine Zdm.partial_correctness p (fun ZeS ZmL Zgs r => Zdm.M ZeS p ZmL Zgs r) ?_ ZeS ZmL Zgs
 intro stg_Check_l1' Zjg ZeS ZmL Zgs r hF
 have ZnS := fun (ZeS : Int) (_p : ZG) (ZmL : Nat) (Zgs : (List Zc)) => Zjg ZeS ZmL Zgs
 clear Zjg
 unfold Zdm.M
 intro ZmA Ztw Ztd hlen26
 refine AWL.step ?_
 refine AWP.seq ?_
 refine ns ?_
 refine AWP.seq ?_
 refine nw ?_
 refine ZB Ztw Ztd (fun x44 Zyu ZxR ZBW ZBL => ?_) (fun ZxR => ?_)
 ·subst ZxR
  refine nw ?_
  refine AWP.seq ?_
  refine AWP.block ?_
  refine AWP.seq ?_
  refine nn ?_
  refine sr (Z9 (f := Zc.cells) (Zc.cells_eq x44) ZBW) ?_
  refine st ?_
  refine AWP.seq ?_
  refine AWP.seq ?_
  obtain ⟨r49, ZCw, hF⟩ := bind_some hF
  refine ns ?_
  refine e3 ?_
  refine st ?_
  refine cm (Zn.weak (rn []) (ZoE x44.fBody _ ZCw) rfl (WS.mk (Zj (ZaM (lc (lc (lc (lc (lc (lc (lc Zr)))))))) Ze) Zf)) ?_
  refine st ?_
  refine nw ?_
  refine Zw hF (fun ZBp hF => ?_) (fun ZBp hF => ?_)
  ·refine AWP.seq ?_
   refine ns ?_
   obtain rfl := Zs hF
   refine ns ?_
   refine Exists.intro [] ?_
   refine st ?_
   exact wx (WS.mk (tc Ze) Zf)
  ·refine nw ?_
   obtain ⟨r51, Zx0, hF⟩ := bind_some hF
   refine ns ?_
   refine e3 ?_
   refine st ?_
   refine cm (Zn.weak (rn []) (ZhR x44.fBody _ Zx0) rfl (WS.mk (Zj (ZaM (lc (lc (lc (lc (lc (lc (lc Zr)))))))) Ze) Zf)) ?_
   refine st ?_
   refine ns ?_
   refine AWL.weak (rn []) ?_ (ZnS (IntKind.i64.wrap (ZeS + r51)) p (ZmL + 1) Zyu _ hF (ZmA ++ [x44]) (by rw [Ztw]; simp) (by rw [Ztd]; simp) hlen26)
   exact (WS.mk (tp (tc (tc (tc (Zj (Zaj (Zcw (ZD hlen26 ZBL))) Ze))))) (Za rfl (cc (cc Zb)) Zf))
 ·subst ZxR
  refine nw ?_
  refine AWP.seq ?_
  refine AWP.seq ?_
  refine AWP.cutN (fun T => ∃ r, WS r T ⟨[(1, .ptr 1 0), (43, .c none (.v (.bool (((decide (ZeS > 60000)) || (decide (((p.fCons.length : Nat) : Int) > 60000))) || (decide (((p.fBinds.length : Nat) : Int) > 60000))))))], [(1, [(none, .sl (p.fCons.map ZT.cells)), (none, .sl (p.fBinds.map Zc.cells))])]⟩) ?_ (fun T hw => ?_)
  ·refine ns ?_
   refine ZA false (fun Zj1 => ?_) (fun Zj1 => ?_)
   ·(conv => whnf)
    refine st ?_
    exact wx (WS.mk (tp (Zj (Zaj (web Zj1)) Ze)) (Za rfl (cc (cc Zb)) Zf))
   ·(conv => whnf)
    refine st ?_
    intro hlen55
    (try rw [List.length_map] at hlen55)
    (try rw [List.length_map])
    refine st ?_
    refine ZA false (fun ZqW => ?_) (fun ZqW => ?_)
    ·(conv => whnf)
     refine st ?_
     exact wx (WS.mk (tp (Zj (Zaj (web (And.intro Zj1 ZqW))) Ze)) (Za rfl (cc (cc Zb)) Zf))
    ·(conv => whnf)
     refine st ?_
     intro hlen56
     (try rw [List.length_map] at hlen56)
     (try rw [List.length_map])
     refine st ?_
     exact wx (WS.mk (tp (Zj (Zaj (web (And.intro Zj1 ZqW))) Ze)) (Za rfl (cc (cc Zb)) Zf))
  obtain ⟨r0, hw⟩ := hw
  (conv => whnf)
  refine AWP.weak r0 hw ?_
  refine nw ?_
  refine Zw hF (fun ZA3 hF => ?_) (fun ZA3 hF => ?_)
  ·refine AWP.seq ?_
   refine ns ?_
   obtain rfl := Zs hF
   refine ns ?_
   refine Exists.intro [] ?_
   refine st ?_
   exact wx (WS.mk (tc Ze) Zf)
  ·refine nw ?_
   refine AWP.seq ?_
   refine ns ?_
   refine AWP.seq ?_
   refine AWP.seq ?_
   refine ns ?_
   intro hlen82
   (try rw [List.length_map] at hlen82)
   (try rw [List.length_map])
   refine st ?_
   refine AWP.block ?_
   refine AWP.loop ?_
   refine AWL.weak (rn []) ?_ (Zn4 p 0 ([] : List (ByteArray × Int)) ([] : List (ByteArray × Int)) false p.fCons _ hF ([]) rfl rfl hlen26 hlen82)
   exact (WS.mk (tp (tp (tc (tc (tc Ze))))) (Za rfl (cc (cc Zb)) (Za rfl (cc Zb) (Za rfl (cc Zb) (Za rfl (cc (cc (cc Zb))) Zf)))))

def Ze6 (p : ZG) : Option (Int) :=
 Zdm 0 p 0 p.fBinds
def Ze6.M (p : ZG) (r : Int) : Prop :=
 Zn Tryz.prog 22 [.agg [.sl (p.fCons.map ZT.cells), .sl (p.fBinds.map Zc.cells)]] [] (fun d b => d = .c none (.v (.int .i64 r)) ∧ b = [])
theorem ZmB (p : ZG) (r : Int) (hF : Ze6 p = some r) : Ze6.M p r := by
 unfold Ze6 at hF
 unfold Ze6.M
 refine en Tryz.func22 ?_
 refine AWP.seq ?_
 refine ns ?_
 refine AWP.seq ?_
 refine ns ?_
 refine AWP.seq ?_
 refine AWP.seq ?_
 refine ns ?_
 intro hlen26
 (try rw [List.length_map] at hlen26)
 (try rw [List.length_map])
 refine st ?_
 refine AWP.block ?_
 refine AWP.loop ?_
 refine AWL.weak (rn []) ?_ (Zn9 0 p 0 p.fBinds _ hF ([]) rfl rfl hlen26)
 exact (WS.mk (tp (tc (tc (tc (tc Ze))))) (Za rfl (cc (cc Zb)) Zf))

def ZfS (l : (List ByteArray)) (names : (List ByteArray)) : Option ((List ByteArray)) :=
 ZaY ((l.length + ([(ByteArray.mk #[40])]).length) * 16 ≤ 140737488355328) >>= fun _ =>
 ZaY (((l ++ ([(ByteArray.mk #[40])])).length + names.length) * 16 ≤ 140737488355328) >>= fun _ =>
 ZaY ((((l ++ ([(ByteArray.mk #[40])])) ++ names).length + ([(ByteArray.mk #[41])]).length) * 16 ≤ 140737488355328) >>= fun _ =>
 some (((l ++ ([(ByteArray.mk #[40])])) ++ names) ++ ([(ByteArray.mk #[41])]))
def ZfS.M (l : (List ByteArray)) (names : (List ByteArray)) (r : (List ByteArray)) : Prop :=
 Zn Tryz.prog 66 [.c (some (0, 9)) (.sl (l.map c_S)), .c none (.sl (names.map c_S))] [] (fun d b => d = .c (some (0, 9)) (.sl (r.map c_S)) ∧ b = [])
theorem Zk9 (l : (List ByteArray)) (names : (List ByteArray)) (r : (List ByteArray)) (hF : ZfS l names = some r) : ZfS.M l names r := by
 unfold ZfS at hF
 unfold ZfS.M
 refine en Tryz.func66 ?_
 refine AWP.seq ?_
 refine ns ?_
 refine AWP.seq ?_
 obtain ⟨hg1, hF⟩ := ZV hF
 refine ns ?_
 refine Exists.intro _ (And.intro (ZE (f := c_S) (lc Zr) (Zx (f := c_S))) ?_)
 refine sa (fun l => ZaE l (fun x => Zbk x)) hg1 ?_
 refine Exists.intro _ (And.intro (WE.refl _) ?_)
 rw [← List.map_append]
 refine st ?_
 refine AWP.seq ?_
 obtain ⟨hg2, hF⟩ := ZV hF
 refine nn ?_
 refine sa (fun l => ZaE l (fun x => Zbk x)) hg2 ?_
 refine Exists.intro _ (And.intro (WE.refl _) ?_)
 rw [← List.map_append]
 refine st ?_
 refine AWP.seq ?_
 obtain ⟨hg3, hF⟩ := ZV hF
 refine ns ?_
 refine Exists.intro _ (And.intro (ZE (f := c_S) (lc Zr) (Zx (f := c_S))) ?_)
 refine sa (fun l => ZaE l (fun x => Zbk x)) hg3 ?_
 refine Exists.intro _ (And.intro (WE.refl _) ?_)
 rw [← List.map_append]
 refine st ?_
 obtain rfl := Zs hF
 refine ns ?_
 refine Exists.intro [] ?_
 refine st ?_
 exact Exists.intro (rn [(13, 0)]) (WS.mk (Zj (ZH rfl (WE.refl _)) Ze) Zf)

def ZgM (l : (List ByteArray)) (a : Zq) : Option ((List ByteArray)) :=
 if (a.fOp == 1) = true then
 ZaY ((l.length + ([(ByteArray.mk #[40]), (ByteArray.mk #[118, 97, 114]), a.fName, (ByteArray.mk #[41])]).length) * 16 ≤ 140737488355328) >>= fun _ =>
 some (l ++ ([(ByteArray.mk #[40]), (ByteArray.mk #[118, 97, 114]), a.fName, (ByteArray.mk #[41])]))
 else
 if (a.fOp == 2) = true then
 strconv_Itoa a.fN >>= fun r9 =>
 ZaY ((l.length + ([(ByteArray.mk #[40]), (ByteArray.mk #[105, 110, 116]), r9, (ByteArray.mk #[41])]).length) * 16 ≤ 140737488355328) >>= fun _ =>
 some (l ++ ([(ByteArray.mk #[40]), (ByteArray.mk #[105, 110, 116]), r9, (ByteArray.mk #[41])]))
 else
 strconv_Itoa a.fN >>= fun r11 =>
 ZaY ((l.length + ([(ByteArray.mk #[40]), (ByteArray.mk #[99, 104, 97, 114]), r11, (ByteArray.mk #[41])]).length) * 16 ≤ 140737488355328) >>= fun _ =>
 some (l ++ ([(ByteArray.mk #[40]), (ByteArray.mk #[99, 104, 97, 114]), r11, (ByteArray.mk #[41])]))
def ZgM.M (l : (List ByteArray)) (a : Zq) (r : (List ByteArray)) : Prop :=
 Zn Tryz.prog 103 [.c (some (0, 9)) (.sl (l.map c_S)), .agg [.v (.int .i64 a.fOp), .v (.string a.fName), .v (.int .i64 a.fN)]] [] (fun d b => d = .c (some (0, 9)) (.sl (r.map c_S)) ∧ b = [])
theorem ZoW (l : (List ByteArray)) (a : Zq) (r : (List ByteArray)) (hF : ZgM l a = some r) : ZgM.M l a r := by
 unfold ZgM at hF
 unfold ZgM.M
 refine en Tryz.func103 ?_
 refine AWP.seq ?_
 refine ns ?_
 refine AWP.seq ?_
 refine AWP.seq ?_
 refine ns ?_
 refine AWP.block ?_
 refine AWP.seq ?_
 refine ns ?_
 refine nw ?_
 refine Zw hF (fun hc6 hF => ?_) (fun hc6 hF => ?_)
 ·refine AWP.seq ?_
  obtain ⟨hg7, hF⟩ := ZV hF
  refine ns ?_
  refine Exists.intro _ (And.intro (ZE (f := c_S) (lc Zr) (ZE (f := c_S) (lc Zr) (ZE (f := c_S) (lc Zr) (ZE (f := c_S) (lc Zr) (Zx (f := c_S)))))) ?_)
  refine sa (fun l => ZaE l (fun x => Zbk x)) hg7 ?_
  refine Exists.intro _ (And.intro (WE.refl _) ?_)
  rw [← List.map_append]
  refine st ?_
  obtain rfl := Zs hF
  refine ns ?_
  refine Exists.intro [] ?_
  refine st ?_
  exact Exists.intro (rn [(13, 0)]) (WS.mk (Zj (ZH rfl (WE.refl _)) Ze) Zf)
 ·refine AWP.seq ?_
  refine ns ?_
  refine nw ?_
  refine Zw hF (fun hc8 hF => ?_) (fun hc8 hF => ?_)
  ·refine AWP.seq ?_
   obtain ⟨r9, hr9, hF⟩ := bind_some hF
   obtain ⟨Zyy, hF⟩ := ZV hF
   refine ns ?_
   refine e3 ?_
   refine st ?_
   refine cm (Zn.weak (rn []) (Zen a.fN _ hr9) rfl (WS.mk (tc Ze) Zf)) ?_
   refine st ?_
   refine Exists.intro _ (And.intro (ZE (f := c_S) (lc Zr) (ZE (f := c_S) (lc Zr) (ZE (f := c_S) (lc Zr) (ZE (f := c_S) (lc Zr) (Zx (f := c_S)))))) ?_)
   refine sa (fun l => ZaE l (fun x => Zbk x)) Zyy ?_
   refine Exists.intro _ (And.intro (WE.refl _) ?_)
   rw [← List.map_append]
   refine st ?_
   obtain rfl := Zs hF
   refine ns ?_
   refine Exists.intro [] ?_
   refine st ?_
   exact Exists.intro (rn [(21, 0)]) (WS.mk (Zj (ZH rfl (WE.refl _)) Ze) Zf)
  ·refine nw ?_
   refine AWP.seq ?_
   obtain ⟨r11, Zwn, hF⟩ := bind_some hF
   obtain ⟨ZCA, hF⟩ := ZV hF
   refine ns ?_
   refine e3 ?_
   refine st ?_
   refine cm (Zn.weak (rn []) (Zen a.fN _ Zwn) rfl (WS.mk (tc Ze) Zf)) ?_
   refine st ?_
   refine Exists.intro _ (And.intro (ZE (f := c_S) (lc Zr) (ZE (f := c_S) (lc Zr) (ZE (f := c_S) (lc Zr) (ZE (f := c_S) (lc Zr) (Zx (f := c_S)))))) ?_)
   refine sa (fun l => ZaE l (fun x => Zbk x)) ZCA ?_
   refine Exists.intro _ (And.intro (WE.refl _) ?_)
   rw [← List.map_append]
   refine st ?_
   obtain rfl := Zs hF
   refine ns ?_
   refine Exists.intro [] ?_
   refine st ?_
   exact Exists.intro (rn [(27, 0)]) (WS.mk (Zj (ZH rfl (WE.refl _)) Ze) Zf)

def ZeE (l_0 : (List ByteArray)) (e : Zo) (ZmO : Nat) (Zgt : (List Zq)) : Option ((List ByteArray)) :=
 (match Zgt with
 | x91 :: Zss =>
 ZgM l_0 x91 >>= fun r94 =>
 ZeE r94 e (ZmO + 1) Zss
 | [] =>
 ZaY ((l_0.length + ([(ByteArray.mk #[41])]).length) * 16 ≤ 140737488355328) >>= fun _ =>
 some (l_0 ++ ([(ByteArray.mk #[41])])))
 partial_fixpoint
def ZeE.M (l_0 : (List ByteArray)) (e : Zo) (ZmO : Nat) (Zgt : (List Zq)) (r : (List ByteArray)) : Prop :=
 ∀ Zmz : List Zq, e.fArgs = Zmz ++ Zgt → ZmO = Zmz.length → e.fArgs.length ≤ maxLen → AWL Tryz.prog 109 (Code.sub (Zt Tryz.f67) [1, 1, 1, 0, 1, 0, 0]) (Code.cont Tryz.prog 109 (Zt Tryz.f67) [1, 1, 1, 0, 1, 0] (Zbl tab Tryz.f67.results (Zbo (.c (some (0, 9)) (.sl (r.map c_S))) []))) ⟨[(0, .c (some (0, 9)) (.sl (l_0.map c_S))), (96, .c none (.sl (e.fArgs.map Zq.cells))), (97, .c none (.v (.int .i64 ((e.fArgs.length : Nat) : Int)))), (98, .c none (.v (.int .i64 ((ZmO : Nat) : Int))))], []⟩
theorem ZpR (l_0 : (List ByteArray)) (e : Zo) (ZmO : Nat) (Zgt : (List Zq)) : ∀ r, ZeE l_0 e ZmO Zgt = some r → ZeE.M l_0 e ZmO Zgt r := by
 refine ZeE.partial_correctness e (fun l_0 ZmO Zgt r => ZeE.M l_0 e ZmO Zgt r) ?_ l_0 ZmO Zgt
 intro stg_put_l2' Zk3 l_0 ZmO Zgt r hF
 have ZpV := fun (l_0 : (List ByteArray)) (_e : Zo) (ZmO : Nat) (Zgt : (List Zq)) => Zk3 l_0 ZmO Zgt
 clear Zk3
 unfold ZeE.M
 intro Zmz ZtH Ztu hlen81
 refine AWL.step ?_
 refine AWP.seq ?_
 refine ns ?_
 refine AWP.seq ?_
 refine nw ?_
 refine ZB ZtH Ztu (fun x91 Zss ZsK ZyL ZyS => ?_) (fun ZsK => ?_)
 ·subst ZsK
  refine nw ?_
  refine AWP.seq ?_
  refine AWP.block ?_
  refine AWP.seq ?_
  refine nn ?_
  refine sr (Z9 (f := Zq.cells) (Zq.cells_eq x91) ZyL) ?_
  refine st ?_
  obtain ⟨r94, ZxC, hF⟩ := bind_some hF
  refine ns ?_
  refine e3 ?_
  refine st ?_
  refine cm (Zn.weak (rn [(0, 0)]) (ZoW l_0 x91 _ ZxC) rfl (WS.mk (Zj (ZH rfl (WE.refl _)) (Zj (ZaM (lc (lc (lc Zr)))) Ze)) Zf)) ?_
  refine st ?_
  refine ns ?_
  refine AWL.weak (rn [(104, 0)]) ?_ (ZpV r94 e (ZmO + 1) Zss _ hF (Zmz ++ [x91]) (by rw [ZtH]; simp) (by rw [Ztu]; simp) hlen81)
  exact (WS.mk (Zj (ZH rfl (WE.refl _)) (tc (tc (Zj (Zaj (Zcw (ZD hlen81 ZyS))) Ze)))) Zf)
 ·subst ZsK
  refine nw ?_
  refine AWP.seq ?_
  obtain ⟨ZBg, hF⟩ := ZV hF
  refine ns ?_
  refine Exists.intro _ (And.intro (ZE (f := c_S) (lc Zr) (Zx (f := c_S))) ?_)
  refine sa (fun l => ZaE l (fun x => Zbk x)) ZBg ?_
  refine Exists.intro _ (And.intro (WE.refl _) ?_)
  rw [← List.map_append]
  refine st ?_
  obtain rfl := Zs hF
  refine ns ?_
  refine Exists.intro [] ?_
  refine st ?_
  exact Exists.intro (rn [(108, 0)]) (WS.mk (Zj (ZH rfl (WE.refl _)) Ze) Zf)

def Zda (l_0 : (List ByteArray)) (e : Zo) : Option ((List ByteArray)) :=
 ZeE l_0 e 0 e.fArgs
def Zda.M (l_0 : (List ByteArray)) (e : Zo) (r : (List ByteArray)) : Prop :=
 AWP Tryz.prog 109 (Code.sub (Zt Tryz.f67) [1, 1, 1]) (Code.cont Tryz.prog 109 (Zt Tryz.f67) [1, 1, 1] (Zbl tab Tryz.f67.results (Zbo (.c (some (0, 9)) (.sl (r.map c_S))) []))) ⟨[(0, .c (some (0, 9)) (.sl (l_0.map c_S))), (3, .ptr 3 0)], [(3, [(none, .v (.int .i64 e.fOp)), (none, .v (.string e.fName)), (none, .sl (e.fArgs.map Zq.cells)), (none, .v (.bool e.fRec)), (none, .sl (e.fBinds.map Zc.cells)), (none, .sl (e.fKids.map Zo.cells)), (none, .sl (e.fAlts.map Zi.cells))])]⟩
theorem ZeC (l_0 : (List ByteArray)) (e : Zo) (r : (List ByteArray)) (hF : Zda l_0 e = some r) : Zda.M l_0 e r := by
 unfold Zda at hF
 unfold Zda.M
 refine AWP.seq ?_
 refine AWP.seq ?_
 refine ns ?_
 intro hlen81
 (try rw [List.length_map] at hlen81)
 (try rw [List.length_map])
 refine st ?_
 refine AWP.block ?_
 refine AWP.loop ?_
 refine AWL.weak (rn [(0, 0)]) ?_ (ZpR l_0 e 0 e.fArgs _ hF ([]) rfl rfl hlen81)
 exact (WS.mk (Zj (ZH rfl (WE.refl _)) (tc (tc (tc Ze)))) Zf)

mutual
def Zc6 (l : (List ByteArray)) (b : Zc) : Option ((List ByteArray)) :=
 if (b.fOp == 1) = true then
 Zdi l (ByteArray.mk #[102, 117, 110]) b
 else
 Zdi l (ByteArray.mk #[116, 104, 117, 110, 107]) b
 partial_fixpoint
def Zdi (l : (List ByteArray)) (Zdv : ByteArray) (b : Zc) : Option ((List ByteArray)) :=
 if (b.fOp == 3) = true then
 Zdj l (ByteArray.mk #[99, 111, 110]) b
 else
 Zdj l Zdv b
 partial_fixpoint
def Zdj (l : (List ByteArray)) (Zdv : ByteArray) (b : Zc) : Option ((List ByteArray)) :=
 ZaY ((l.length + ([(ByteArray.mk #[40]), Zdv, b.fName]).length) * 16 ≤ 140737488355328) >>= fun _ =>
 ZfS (l ++ ([(ByteArray.mk #[40]), Zdv, b.fName])) b.fFree >>= fun r6 =>
 if (b.fOp == 1) = true then
 ZfS r6 b.fParams >>= fun r12 =>
 Zde r12 b
 else
 Zde r6 b
 partial_fixpoint
def Zde (l_0 : (List ByteArray)) (b : Zc) : Option ((List ByteArray)) :=
 Zgw l_0 b.fBody >>= fun r9 =>
 ZaY ((r9.length + ([(ByteArray.mk #[41])]).length) * 16 ≤ 140737488355328) >>= fun _ =>
 some (r9 ++ ([(ByteArray.mk #[41])]))
 partial_fixpoint
def Zgw (l : (List ByteArray)) (e : Zo) : Option ((List ByteArray)) :=
 ZaY ((l.length + ([(ByteArray.mk #[40])]).length) * 16 ≤ 140737488355328) >>= fun _ =>
 if (e.fOp == 1) = true then
 ZaY (((l ++ ([(ByteArray.mk #[40])])).length + ([(ByteArray.mk #[97, 116, 111, 109])]).length) * 16 ≤ 140737488355328) >>= fun _ =>
 Zda ((l ++ ([(ByteArray.mk #[40])])) ++ ([(ByteArray.mk #[97, 116, 111, 109])])) e
 else
 if (e.fOp == 2) = true then
 ZaY (((l ++ ([(ByteArray.mk #[40])])).length + ([(ByteArray.mk #[97, 112, 112]), e.fName]).length) * 16 ≤ 140737488355328) >>= fun _ =>
 Zda ((l ++ ([(ByteArray.mk #[40])])) ++ ([(ByteArray.mk #[97, 112, 112]), e.fName])) e
 else
 if (e.fOp == 3) = true then
 ZaY (((l ++ ([(ByteArray.mk #[40])])).length + ([(ByteArray.mk #[99, 111, 110]), e.fName]).length) * 16 ≤ 140737488355328) >>= fun _ =>
 Zda ((l ++ ([(ByteArray.mk #[40])])) ++ ([(ByteArray.mk #[99, 111, 110]), e.fName])) e
 else
 if (e.fOp == 4) = true then
 ZaY (((l ++ ([(ByteArray.mk #[40])])).length + ([(ByteArray.mk #[112, 114, 105, 109]), e.fName]).length) * 16 ≤ 140737488355328) >>= fun _ =>
 Zda ((l ++ ([(ByteArray.mk #[40])])) ++ ([(ByteArray.mk #[112, 114, 105, 109]), e.fName])) e
 else
 if (e.fOp == 5) = true then
 if e.fRec = true then
 ZgD l (ByteArray.mk #[108, 101, 116, 114, 101, 99]) e
 else
 ZgD l (ByteArray.mk #[108, 101, 116]) e
 else
 if (e.fOp == 6) = true then
 (ixI e.fKids 0) >>= fun ZwF =>
 ZaY (((l ++ ([(ByteArray.mk #[40])])).length + ([(ByteArray.mk #[99, 97, 115, 101])]).length) * 16 ≤ 140737488355328) >>= fun _ =>
 Zgw ((l ++ ([(ByteArray.mk #[40])])) ++ ([(ByteArray.mk #[99, 97, 115, 101])])) ZwF >>= fun ZrV =>
 ZaY ((ZrV.length + ([e.fName]).length) * 16 ≤ 140737488355328) >>= fun _ =>
 ZgC (ZrV ++ ([e.fName])) e 0 e.fAlts
 else
 Zda (l ++ ([(ByteArray.mk #[40])])) e
 partial_fixpoint
def ZgC (l_0 : (List ByteArray)) (e : Zo) (Zqy : Nat) (Zka : (List Zi)) : Option ((List ByteArray)) :=
 (match Zka with
 | Zvl :: ZvC =>
 ZhA l_0 Zvl >>= fun Zxd =>
 ZgC Zxd e (Zqy + 1) ZvC
 | [] =>
 Zda l_0 e)
 partial_fixpoint
def ZhA (l : (List ByteArray)) (a : Zi) : Option ((List ByteArray)) :=
 ZaY ((l.length + ([(ByteArray.mk #[40])]).length) * 16 ≤ 140737488355328) >>= fun _ =>
 if (a.fOp == 1) = true then
 ZaY (((l ++ ([(ByteArray.mk #[40])])).length + ([(ByteArray.mk #[97, 108, 116]), a.fName]).length) * 16 ≤ 140737488355328) >>= fun _ =>
 ZfS ((l ++ ([(ByteArray.mk #[40])])) ++ ([(ByteArray.mk #[97, 108, 116]), a.fName])) a.fVars >>= fun r20 =>
 ZdJ r20 a
 else
 if (a.fOp == 2) = true then
 strconv_Itoa a.fN >>= fun r22 =>
 ZaY (((l ++ ([(ByteArray.mk #[40])])).length + ([(ByteArray.mk #[105, 110, 116]), r22]).length) * 16 ≤ 140737488355328) >>= fun _ =>
 ZdJ ((l ++ ([(ByteArray.mk #[40])])) ++ ([(ByteArray.mk #[105, 110, 116]), r22])) a
 else
 if (a.fOp == 3) = true then
 strconv_Itoa a.fN >>= fun r25 =>
 ZaY (((l ++ ([(ByteArray.mk #[40])])).length + ([(ByteArray.mk #[99, 104, 97, 114]), r25]).length) * 16 ≤ 140737488355328) >>= fun _ =>
 ZdJ ((l ++ ([(ByteArray.mk #[40])])) ++ ([(ByteArray.mk #[99, 104, 97, 114]), r25])) a
 else
 ZaY (((l ++ ([(ByteArray.mk #[40])])).length + ([(ByteArray.mk #[100, 101, 102, 97, 117, 108, 116])]).length) * 16 ≤ 140737488355328) >>= fun _ =>
 ZdJ ((l ++ ([(ByteArray.mk #[40])])) ++ ([(ByteArray.mk #[100, 101, 102, 97, 117, 108, 116])])) a
 partial_fixpoint
def ZdJ (l_0 : (List ByteArray)) (a : Zi) : Option ((List ByteArray)) :=
 Zgw l_0 a.fBody >>= fun r14 =>
 ZaY ((r14.length + ([(ByteArray.mk #[41])]).length) * 16 ≤ 140737488355328) >>= fun _ =>
 some (r14 ++ ([(ByteArray.mk #[41])]))
 partial_fixpoint
def ZgD (l : (List ByteArray)) (Zdv : ByteArray) (e : Zo) : Option ((List ByteArray)) :=
 ZaY (((l ++ ([(ByteArray.mk #[40])])).length + ([Zdv]).length) * 16 ≤ 140737488355328) >>= fun _ =>
 ZgA ((l ++ ([(ByteArray.mk #[40])])) ++ ([Zdv])) e 0 e.fBinds
 partial_fixpoint
def ZgA (l_0 : (List ByteArray)) (e : Zo) (ZqR : Nat) (Zkj : (List Zc)) : Option ((List ByteArray)) :=
 (match Zkj with
 | ZuC :: Zu4 =>
 Zc6 l_0 ZuC >>= fun Zc1 =>
 ZgA Zc1 e (ZqR + 1) Zu4
 | [] =>
 (ixI e.fKids 0) >>= fun ZwS =>
 ZaY ((l_0.length + ([(ByteArray.mk #[105, 110])]).length) * 16 ≤ 140737488355328) >>= fun _ =>
 Zgw (l_0 ++ ([(ByteArray.mk #[105, 110])])) ZwS >>= fun Zxy =>
 Zda Zxy e)
 partial_fixpoint
end
def Zc6.M (l : (List ByteArray)) (b : Zc) (r : (List ByteArray)) : Prop :=
 Zn Tryz.prog 35 [.c (some (0, 9)) (.sl (l.map c_S)), .agg [.v (.string b.fName), .v (.int .i64 b.fOp), .sl (b.fFree.map c_S), .sl (b.fParams.map c_S), .v (.int .i64 b.fBody.fOp), .v (.string b.fBody.fName), .sl (b.fBody.fArgs.map Zq.cells), .v (.bool b.fBody.fRec), .sl (b.fBody.fBinds.map Zc.cells), .sl (b.fBody.fKids.map Zo.cells), .sl (b.fBody.fAlts.map Zi.cells)]] [] (fun d b => d = .c (some (0, 9)) (.sl (r.map c_S)) ∧ b = [])
def Zdi.M (l : (List ByteArray)) (Zdv : ByteArray) (b : Zc) (r : (List ByteArray)) : Prop :=
 AWP Tryz.prog 34 (Code.sub (Zt Tryz.f35) [1, 1, 1]) (Code.cont Tryz.prog 34 (Zt Tryz.f35) [1, 1, 1] (Zbl tab Tryz.f35.results (Zbo (.c (some (0, 9)) (.sl (r.map c_S))) []))) ⟨[(0, .c (some (0, 9)) (.sl (l.map c_S))), (3, .ptr 3 0), (5, .c none (.v (.string Zdv)))], [(3, [(none, .v (.string b.fName)), (none, .v (.int .i64 b.fOp)), (none, .sl (b.fFree.map c_S)), (none, .sl (b.fParams.map c_S)), (none, .v (.int .i64 b.fBody.fOp)), (none, .v (.string b.fBody.fName)), (none, .sl (b.fBody.fArgs.map Zq.cells)), (none, .v (.bool b.fBody.fRec)), (none, .sl (b.fBody.fBinds.map Zc.cells)), (none, .sl (b.fBody.fKids.map Zo.cells)), (none, .sl (b.fBody.fAlts.map Zi.cells))])]⟩
def Zdj.M (l : (List ByteArray)) (Zdv : ByteArray) (b : Zc) (r : (List ByteArray)) : Prop :=
 AWP Tryz.prog 34 (Code.sub (Zt Tryz.f35) [1, 1, 1, 1]) (Code.cont Tryz.prog 34 (Zt Tryz.f35) [1, 1, 1, 1] (Zbl tab Tryz.f35.results (Zbo (.c (some (0, 9)) (.sl (r.map c_S))) []))) ⟨[(0, .c (some (0, 9)) (.sl (l.map c_S))), (3, .ptr 3 0), (5, .c none (.v (.string Zdv)))], [(3, [(none, .v (.string b.fName)), (none, .v (.int .i64 b.fOp)), (none, .sl (b.fFree.map c_S)), (none, .sl (b.fParams.map c_S)), (none, .v (.int .i64 b.fBody.fOp)), (none, .v (.string b.fBody.fName)), (none, .sl (b.fBody.fArgs.map Zq.cells)), (none, .v (.bool b.fBody.fRec)), (none, .sl (b.fBody.fBinds.map Zc.cells)), (none, .sl (b.fBody.fKids.map Zo.cells)), (none, .sl (b.fBody.fAlts.map Zi.cells))])]⟩
def Zde.M (l_0 : (List ByteArray)) (b : Zc) (r : (List ByteArray)) : Prop :=
 AWP Tryz.prog 34 (Code.sub (Zt Tryz.f35) [1, 1, 1, 1, 1, 1]) (Code.cont Tryz.prog 34 (Zt Tryz.f35) [1, 1, 1, 1, 1, 1] (Zbl tab Tryz.f35.results (Zbo (.c (some (0, 9)) (.sl (r.map c_S))) []))) ⟨[(0, .c (some (0, 9)) (.sl (l_0.map c_S))), (3, .ptr 3 0)], [(3, [(none, .v (.string b.fName)), (none, .v (.int .i64 b.fOp)), (none, .sl (b.fFree.map c_S)), (none, .sl (b.fParams.map c_S)), (none, .v (.int .i64 b.fBody.fOp)), (none, .v (.string b.fBody.fName)), (none, .sl (b.fBody.fArgs.map Zq.cells)), (none, .v (.bool b.fBody.fRec)), (none, .sl (b.fBody.fBinds.map Zc.cells)), (none, .sl (b.fBody.fKids.map Zo.cells)), (none, .sl (b.fBody.fAlts.map Zi.cells))])]⟩
def Zgw.M (l : (List ByteArray)) (e : Zo) (r : (List ByteArray)) : Prop :=
 Zn Tryz.prog 67 [.c (some (0, 9)) (.sl (l.map c_S)), .agg [.v (.int .i64 e.fOp), .v (.string e.fName), .sl (e.fArgs.map Zq.cells), .v (.bool e.fRec), .sl (e.fBinds.map Zc.cells), .sl (e.fKids.map Zo.cells), .sl (e.fAlts.map Zi.cells)]] [] (fun d b => d = .c (some (0, 9)) (.sl (r.map c_S)) ∧ b = [])
def ZgC.M (l_0 : (List ByteArray)) (e : Zo) (Zqy : Nat) (Zka : (List Zi)) (r : (List ByteArray)) : Prop :=
 ∀ Zmu : List Zi, e.fAlts = Zmu ++ Zka → Zqy = Zmu.length → e.fAlts.length ≤ maxLen → AWL Tryz.prog 109 (Code.sub (Zt Tryz.f67) [1, 1, 0, 1, 0, 1, 1, 1, 1, 1, 1, 1, 1, 1, 1, 1, 0, 1, 1, 0, 0]) (Code.cont Tryz.prog 109 (Zt Tryz.f67) [1, 1, 0, 1, 0, 1, 1, 1, 1, 1, 1, 1, 1, 1, 1, 1, 0, 1, 1, 0] (Zbl tab Tryz.f67.results (Zbo (.c (some (0, 9)) (.sl (r.map c_S))) []))) ⟨[(0, .c (some (0, 9)) (.sl (l_0.map c_S))), (3, .ptr 3 0), (85, .c none (.sl (e.fAlts.map Zi.cells))), (86, .c none (.v (.int .i64 ((e.fAlts.length : Nat) : Int)))), (87, .c none (.v (.int .i64 ((Zqy : Nat) : Int))))], [(3, [(none, .v (.int .i64 e.fOp)), (none, .v (.string e.fName)), (none, .sl (e.fArgs.map Zq.cells)), (none, .v (.bool e.fRec)), (none, .sl (e.fBinds.map Zc.cells)), (none, .sl (e.fKids.map Zo.cells)), (none, .sl (e.fAlts.map Zi.cells))])]⟩
def ZhA.M (l : (List ByteArray)) (a : Zi) (r : (List ByteArray)) : Prop :=
 Zn Tryz.prog 102 [.c (some (0, 9)) (.sl (l.map c_S)), .agg [.v (.int .i64 a.fOp), .v (.string a.fName), .v (.int .i64 a.fN), .sl (a.fVars.map c_S), .v (.int .i64 a.fBody.fOp), .v (.string a.fBody.fName), .sl (a.fBody.fArgs.map Zq.cells), .v (.bool a.fBody.fRec), .sl (a.fBody.fBinds.map Zc.cells), .sl (a.fBody.fKids.map Zo.cells), .sl (a.fBody.fAlts.map Zi.cells)]] [] (fun d b => d = .c (some (0, 9)) (.sl (r.map c_S)) ∧ b = [])
def ZdJ.M (l_0 : (List ByteArray)) (a : Zi) (r : (List ByteArray)) : Prop :=
 AWP Tryz.prog 45 (Code.sub (Zt Tryz.f102) [1, 1, 1]) (Code.cont Tryz.prog 45 (Zt Tryz.f102) [1, 1, 1] (Zbl tab Tryz.f102.results (Zbo (.c (some (0, 9)) (.sl (r.map c_S))) []))) ⟨[(0, .c (some (0, 9)) (.sl (l_0.map c_S))), (3, .ptr 3 0)], [(3, [(none, .v (.int .i64 a.fOp)), (none, .v (.string a.fName)), (none, .v (.int .i64 a.fN)), (none, .sl (a.fVars.map c_S)), (none, .v (.int .i64 a.fBody.fOp)), (none, .v (.string a.fBody.fName)), (none, .sl (a.fBody.fArgs.map Zq.cells)), (none, .v (.bool a.fBody.fRec)), (none, .sl (a.fBody.fBinds.map Zc.cells)), (none, .sl (a.fBody.fKids.map Zo.cells)), (none, .sl (a.fBody.fAlts.map Zi.cells))])]⟩
def ZgD.M (l : (List ByteArray)) (Zdv : ByteArray) (e : Zo) (r : (List ByteArray)) : Prop :=
 AWP Tryz.prog 109 (Code.sub (Zt Tryz.f67) [1, 1, 0, 1, 0, 1, 1, 1, 1, 1, 1, 1, 1, 1, 0, 1, 1]) (Code.cont Tryz.prog 109 (Zt Tryz.f67) [1, 1, 0, 1, 0, 1, 1, 1, 1, 1, 1, 1, 1, 1, 0, 1, 1] (Zbl tab Tryz.f67.results (Zbo (.c (some (0, 9)) (.sl (r.map c_S))) []))) ⟨[(0, .c (some (0, 9)) (.sl ((l ++ ([(ByteArray.mk #[40])])).map c_S))), (3, .ptr 3 0), (5, .c none (.v (.string Zdv)))], [(3, [(none, .v (.int .i64 e.fOp)), (none, .v (.string e.fName)), (none, .sl (e.fArgs.map Zq.cells)), (none, .v (.bool e.fRec)), (none, .sl (e.fBinds.map Zc.cells)), (none, .sl (e.fKids.map Zo.cells)), (none, .sl (e.fAlts.map Zi.cells))])]⟩
def ZgA.M (l_0 : (List ByteArray)) (e : Zo) (ZqR : Nat) (Zkj : (List Zc)) (r : (List ByteArray)) : Prop :=
 ∀ Zmi : List Zc, e.fBinds = Zmi ++ Zkj → ZqR = Zmi.length → e.fBinds.length ≤ maxLen → AWL Tryz.prog 109 (Code.sub (Zt Tryz.f67) [1, 1, 0, 1, 0, 1, 1, 1, 1, 1, 1, 1, 1, 1, 0, 1, 1, 1, 0, 1, 0, 0]) (Code.cont Tryz.prog 109 (Zt Tryz.f67) [1, 1, 0, 1, 0, 1, 1, 1, 1, 1, 1, 1, 1, 1, 0, 1, 1, 1, 0, 1, 0] (Zbl tab Tryz.f67.results (Zbo (.c (some (0, 9)) (.sl (r.map c_S))) []))) ⟨[(0, .c (some (0, 9)) (.sl (l_0.map c_S))), (3, .ptr 3 0), (52, .c none (.sl (e.fBinds.map Zc.cells))), (53, .c none (.v (.int .i64 ((e.fBinds.length : Nat) : Int)))), (54, .c none (.v (.int .i64 ((ZqR : Nat) : Int))))], [(3, [(none, .v (.int .i64 e.fOp)), (none, .v (.string e.fName)), (none, .sl (e.fArgs.map Zq.cells)), (none, .v (.bool e.fRec)), (none, .sl (e.fBinds.map Zc.cells)), (none, .sl (e.fKids.map Zo.cells)), (none, .sl (e.fAlts.map Zi.cells))])]⟩
theorem Zn8 : (∀ (l : (List ByteArray)) (b : Zc), ∀ r, Zc6 l b = some r → Zc6.M l b r) ∧ (∀ (l : (List ByteArray)) (Zdv : ByteArray) (b : Zc), ∀ r, Zdi l Zdv b = some r → Zdi.M l Zdv b r) ∧ (∀ (l : (List ByteArray)) (Zdv : ByteArray) (b : Zc), ∀ r, Zdj l Zdv b = some r → Zdj.M l Zdv b r) ∧ (∀ (l_0 : (List ByteArray)) (b : Zc), ∀ r, Zde l_0 b = some r → Zde.M l_0 b r) ∧ (∀ (l : (List ByteArray)) (e : Zo), ∀ r, Zgw l e = some r → Zgw.M l e r) ∧ (∀ (l_0 : (List ByteArray)) (e : Zo) (Zqy : Nat) (Zka : (List Zi)), ∀ r, ZgC l_0 e Zqy Zka = some r → ZgC.M l_0 e Zqy Zka r) ∧ (∀ (l : (List ByteArray)) (a : Zi), ∀ r, ZhA l a = some r → ZhA.M l a r) ∧ (∀ (l_0 : (List ByteArray)) (a : Zi), ∀ r, ZdJ l_0 a = some r → ZdJ.M l_0 a r) ∧ (∀ (l : (List ByteArray)) (Zdv : ByteArray) (e : Zo), ∀ r, ZgD l Zdv e = some r → ZgD.M l Zdv e r) ∧ (∀ (l_0 : (List ByteArray)) (e : Zo) (ZqR : Nat) (Zkj : (List Zc)), ∀ r, ZgA l_0 e ZqR Zkj = some r → ZgA.M l_0 e ZqR Zkj r) := by
 refine Zc6.mutual_partial_correctness Zc6.M Zdi.M Zdj.M Zde.M Zgw.M ZgC.M ZhA.M ZdJ.M ZgD.M ZgA.M ?_ ?_ ?_ ?_ ?_ ?_ ?_ ?_ ?_ ?_
 ·intro stg_putBind_k1' ZiG l b r hF
  unfold Zc6.M
  refine en Tryz.func35 ?_
  refine AWP.seq ?_
  refine ns ?_
  refine AWP.seq ?_
  refine ns ?_
  refine AWP.seq ?_
  refine AWP.seq ?_
  refine ns ?_
  refine nw ?_
  refine Zw hF (fun ZeP hF => ?_) (fun ZeP hF => ?_)
  ·refine ns ?_
   refine AWP.weak (rn [(0, 0)]) ?_ (ZiG l (ByteArray.mk #[102, 117, 110]) b _ hF)
   exact (WS.mk (Zj (ZH rfl (WE.refl _)) (tp (tc Ze))) (Za rfl (cc (cc (cc (cc (cc (cc (cc (cc (cc (cc (cc Zb))))))))))) Zf))
  ·refine nw ?_
   refine AWP.weak (rn [(0, 0)]) ?_ (ZiG l (ByteArray.mk #[116, 104, 117, 110, 107]) b _ hF)
   exact (WS.mk (Zj (ZH rfl (WE.refl _)) (tp (tc Ze))) (Za rfl (cc (cc (cc (cc (cc (cc (cc (cc (cc (cc (cc Zb))))))))))) Zf))
 ·intro stg_putBind_k2' ZiF l Zdv b r hF
  unfold Zdi.M
  refine AWP.seq ?_
  refine AWP.seq ?_
  refine ns ?_
  refine nw ?_
  refine Zw hF (fun ZdK hF => ?_) (fun ZdK hF => ?_)
  ·refine ns ?_
   refine AWP.weak (rn [(0, 0)]) ?_ (ZiF l (ByteArray.mk #[99, 111, 110]) b _ hF)
   exact (WS.mk (Zj (ZH rfl (WE.refl _)) (tp (tc Ze))) (Za rfl (cc (cc (cc (cc (cc (cc (cc (cc (cc (cc (cc Zb))))))))))) Zf))
  ·refine nw ?_
   refine AWP.weak (rn [(0, 0)]) ?_ (ZiF l Zdv b _ hF)
   exact (WS.mk (Zj (ZH rfl (WE.refl _)) (tp (tc Ze))) (Za rfl (cc (cc (cc (cc (cc (cc (cc (cc (cc (cc (cc Zb))))))))))) Zf))
 ·intro stg_putBind_k3' ZiO l Zdv b r hF
  unfold Zdj.M
  refine AWP.seq ?_
  obtain ⟨hg5, hF⟩ := ZV hF
  obtain ⟨r6, hr6, hF⟩ := bind_some hF
  refine nn ?_
  refine Or.inl (Or.inr (Exists.intro [1, 2, 3, 4, 6, 7] (Exists.intro [[13, 14, 15, 16, 18, 19], [13, 14, 15, 16, 18, 19], [13, 15, 16, 18, 19], [16, 18, 19], [13, 14, 15, 16, 18, 19], [13, 14, 15, 16, 19]] (Exists.intro [3] (Exists.intro [3, 5, 13, 14, 15, 16, 18, 19] (Exists.intro [13, 14, 15, 16, 18, 19] (Exists.intro [0, 5, 8, 9] (And.intro (by decide +kernel) ?_))))))))
  refine dp ?_
  refine dp ?_
  refine dp ?_
  refine de (ZE (f := c_S) (lc Zr) (ZE (f := c_S) (lc Zr) (ZE (f := c_S) (lc Zr) (Zx (f := c_S))))) ?_
  refine dp ?_
  refine dp ?_
  refine sa (fun l => ZaE l (fun x => Zbk x)) hg5 ?_
  refine Exists.intro _ (And.intro (WE.refl _) ?_)
  rw [← List.map_append]
  refine st ?_
  refine e3 ?_
  refine st ?_
  refine cm (Zn.weak (rn [(17, 0)]) (Zk9 (l ++ ([(ByteArray.mk #[40]), Zdv, b.fName])) b.fFree _ hr6) rfl (WS.mk (Zj (ZH rfl (WE.refl _)) (tc Ze)) Zf)) ?_
  refine st ?_
  refine AWP.seq ?_
  refine AWP.seq ?_
  refine ns ?_
  refine nw ?_
  refine Zw hF (fun ZeF hF => ?_) (fun ZeF hF => ?_)
  ·obtain ⟨r12, Zv5, hF⟩ := bind_some hF
   refine ns ?_
   refine e3 ?_
   refine st ?_
   refine cm (Zn.weak (rn [(20, 0)]) (Zk9 r6 b.fParams _ Zv5) rfl (WS.mk (Zj (ZH rfl (WE.refl _)) (tc Ze)) Zf)) ?_
   refine st ?_
   refine AWP.weak (rn [(27, 0)]) ?_ (ZiO r12 b _ hF)
   exact (WS.mk (Zj (ZH rfl (WE.refl _)) (tp Ze)) (Za rfl (cc (cc (cc (cc (cc (cc (cc (cc (cc (cc (cc Zb))))))))))) Zf))
  ·refine nw ?_
   refine AWP.weak (rn [(20, 0)]) ?_ (ZiO r6 b _ hF)
   exact (WS.mk (Zj (ZH rfl (WE.refl _)) (tp Ze)) (Za rfl (cc (cc (cc (cc (cc (cc (cc (cc (cc (cc (cc Zb))))))))))) Zf))
 ·intro stg_put' ZgB l_0 b r hF
  unfold Zde.M
  refine AWP.seq ?_
  obtain ⟨r9, hr9, hF⟩ := bind_some hF
  obtain ⟨Zyy, hF⟩ := ZV hF
  refine ns ?_
  refine e3 ?_
  refine st ?_
  refine cm (Zn.weak (rn [(0, 0)]) (ZgB l_0 b.fBody _ hr9) rfl (WS.mk (Zj (ZH rfl (WE.refl _)) (Zj (ZaM (lc (lc (lc (lc (lc (lc (lc Zr)))))))) Ze)) Zf)) ?_
  refine st ?_
  refine Exists.intro _ (And.intro (ZE (f := c_S) (lc Zr) (Zx (f := c_S))) ?_)
  refine sa (fun l => ZaE l (fun x => Zbk x)) Zyy ?_
  refine Exists.intro _ (And.intro (WE.refl _) ?_)
  rw [← List.map_append]
  refine st ?_
  obtain rfl := Zs hF
  refine ns ?_
  refine Exists.intro [] ?_
  refine st ?_
  exact Exists.intro (rn [(33, 0)]) (WS.mk (Zj (ZH rfl (WE.refl _)) Ze) Zf)
 ·intro stg_put' stg_put_l5' stg_put_k3' ZgB Zi8 ZlT l e r hF
  unfold Zgw.M
  refine en Tryz.func67 ?_
  refine AWP.seq ?_
  refine ns ?_
  refine AWP.seq ?_
  obtain ⟨hg1, hF⟩ := ZV hF
  refine ns ?_
  refine Exists.intro _ (And.intro (ZE (f := c_S) (lc Zr) (Zx (f := c_S))) ?_)
  refine sa (fun l => ZaE l (fun x => Zbk x)) hg1 ?_
  refine Exists.intro _ (And.intro (WE.refl _) ?_)
  rw [← List.map_append]
  refine st ?_
  refine AWP.seq ?_
  refine AWP.seq ?_
  refine ns ?_
  refine AWP.block ?_
  refine AWP.seq ?_
  refine ns ?_
  refine nw ?_
  refine Zw hF (fun ZB4 hF => ?_) (fun ZB4 hF => ?_)
  ·obtain ⟨ZA7, hF⟩ := ZV hF
   refine ns ?_
   refine Exists.intro _ (And.intro (ZE (f := c_S) (lc Zr) (Zx (f := c_S))) ?_)
   refine sa (fun l => ZaE l (fun x => Zbk x)) ZA7 ?_
   refine Exists.intro _ (And.intro (WE.refl _) ?_)
   rw [← List.map_append]
   refine st ?_
   refine AWP.weak (rn [(21, 0)]) ?_ (ZeC ((l ++ ([(ByteArray.mk #[40])])) ++ ([(ByteArray.mk #[97, 116, 111, 109])])) e _ hF)
   exact (WS.mk (Zj (ZH rfl (WE.refl _)) (tp Ze)) (Za rfl (cc (cc (cc (cc (cc (cc (cc Zb))))))) Zf))
  ·refine AWP.seq ?_
   refine ns ?_
   refine nw ?_
   refine Zw hF (fun ZBJ hF => ?_) (fun ZBJ hF => ?_)
   ·obtain ⟨ZCk, hF⟩ := ZV hF
    refine ns ?_
    refine Exists.intro _ (And.intro (ZE (f := c_S) (lc Zr) (ZE (f := c_S) (lc Zr) (Zx (f := c_S)))) ?_)
    refine sa (fun l => ZaE l (fun x => Zbk x)) ZCk ?_
    refine Exists.intro _ (And.intro (WE.refl _) ?_)
    rw [← List.map_append]
    refine st ?_
    refine AWP.weak (rn [(28, 0)]) ?_ (ZeC ((l ++ ([(ByteArray.mk #[40])])) ++ ([(ByteArray.mk #[97, 112, 112]), e.fName])) e _ hF)
    exact (WS.mk (Zj (ZH rfl (WE.refl _)) (tp Ze)) (Za rfl (cc (cc (cc (cc (cc (cc (cc Zb))))))) Zf))
   ·refine AWP.seq ?_
    refine ns ?_
    refine nw ?_
    refine Zw hF (fun ZzY hF => ?_) (fun ZzY hF => ?_)
    ·obtain ⟨ZAe, hF⟩ := ZV hF
     refine ns ?_
     refine Exists.intro _ (And.intro (ZE (f := c_S) (lc Zr) (ZE (f := c_S) (lc Zr) (Zx (f := c_S)))) ?_)
     refine sa (fun l => ZaE l (fun x => Zbk x)) ZAe ?_
     refine Exists.intro _ (And.intro (WE.refl _) ?_)
     rw [← List.map_append]
     refine st ?_
     refine AWP.weak (rn [(35, 0)]) ?_ (ZeC ((l ++ ([(ByteArray.mk #[40])])) ++ ([(ByteArray.mk #[99, 111, 110]), e.fName])) e _ hF)
     exact (WS.mk (Zj (ZH rfl (WE.refl _)) (tp Ze)) (Za rfl (cc (cc (cc (cc (cc (cc (cc Zb))))))) Zf))
    ·refine AWP.seq ?_
     refine ns ?_
     refine nw ?_
     refine Zw hF (fun ZAk hF => ?_) (fun ZAk hF => ?_)
     ·obtain ⟨Zz4, hF⟩ := ZV hF
      refine ns ?_
      refine Exists.intro _ (And.intro (ZE (f := c_S) (lc Zr) (ZE (f := c_S) (lc Zr) (Zx (f := c_S)))) ?_)
      refine sa (fun l => ZaE l (fun x => Zbk x)) Zz4 ?_
      refine Exists.intro _ (And.intro (WE.refl _) ?_)
      rw [← List.map_append]
      refine st ?_
      refine AWP.weak (rn [(42, 0)]) ?_ (ZeC ((l ++ ([(ByteArray.mk #[40])])) ++ ([(ByteArray.mk #[112, 114, 105, 109]), e.fName])) e _ hF)
      exact (WS.mk (Zj (ZH rfl (WE.refl _)) (tp Ze)) (Za rfl (cc (cc (cc (cc (cc (cc (cc Zb))))))) Zf))
     ·refine AWP.seq ?_
      refine ns ?_
      refine nw ?_
      refine Zw hF (fun ZAm hF => ?_) (fun ZAm hF => ?_)
      ·refine AWP.seq ?_
       refine ns ?_
       refine AWP.seq ?_
       refine AWP.seq ?_
       refine ns ?_
       refine nw ?_
       refine Zw hF (fun ZAd hF => ?_) (fun ZAd hF => ?_)
       ·refine ns ?_
        refine AWP.weak (rn [(14, 0)]) ?_ (ZlT l (ByteArray.mk #[108, 101, 116, 114, 101, 99]) e _ hF)
        exact (WS.mk (Zj (ZH rfl (WE.refl _)) (tp (tc Ze))) (Za rfl (cc (cc (cc (cc (cc (cc (cc Zb))))))) Zf))
       ·refine nw ?_
        refine AWP.weak (rn [(14, 0)]) ?_ (ZlT l (ByteArray.mk #[108, 101, 116]) e _ hF)
        exact (WS.mk (Zj (ZH rfl (WE.refl _)) (tp (tc Ze))) (Za rfl (cc (cc (cc (cc (cc (cc (cc Zb))))))) Zf))
      ·refine AWP.seq ?_
       refine ns ?_
       refine nw ?_
       refine Zw hF (fun ZzJ hF => ?_) (fun ZzJ hF => ?_)
       ·refine AWP.seq ?_
        obtain ⟨ZwF, hx1460, Zwm, hF⟩ := ZiQ hF
        obtain ⟨ZAF, hF⟩ := ZV hF
        obtain ⟨ZrV, Zwg, hF⟩ := bind_some hF
        obtain ⟨ZAK, hF⟩ := ZV hF
        refine nn ?_
        refine Or.inl (Or.inr (Exists.intro [1, 3, 4, 5, 6, 8, 9, 10] (Exists.intro [[73, 75, 76, 77, 78, 80, 81, 82], [73, 75, 76, 77, 78, 80, 81, 82], [73, 76, 77, 78, 80, 81, 82], [73, 77, 78, 80, 81, 82], [73, 78, 80, 81, 82], [73, 75, 76, 77, 78, 80, 81, 82], [73, 75, 76, 77, 78, 81, 82], [73, 75, 76, 77, 78, 82]] (Exists.intro [3] (Exists.intro [3, 73, 75, 76, 77, 78, 80, 81, 82] (Exists.intro [73, 75, 76, 77, 78, 80, 81, 82] (Exists.intro [0, 2, 7, 11, 12] (And.intro (by decide +kernel) ?_))))))))
        refine de (ZE (f := c_S) (lc Zr) (Zx (f := c_S))) ?_
        refine dp ?_
        refine dp ?_
        refine dr (ZhL (Zo.cells_eq ZwF) Zwm) ?_
        refine dp ?_
        refine dp ?_
        refine dp ?_
        refine de (ZE (f := c_S) (lc Zr) (Zx (f := c_S))) ?_
        refine sa (fun l => ZaE l (fun x => Zbk x)) ZAF ?_
        refine Exists.intro _ (And.intro (WE.refl _) ?_)
        rw [← List.map_append]
        refine st ?_
        refine e3 ?_
        refine st ?_
        refine cm (Zn.weak (rn [(74, 0)]) (ZgB ((l ++ ([(ByteArray.mk #[40])])) ++ ([(ByteArray.mk #[99, 97, 115, 101])])) ZwF _ Zwg) rfl (WS.mk (Zj (ZH rfl (WE.refl _)) (Zj (ZaM (lc (lc (lc (lc (lc (lc (lc Zr)))))))) Ze)) Zf)) ?_
        refine st ?_
        refine sa (fun l => ZaE l (fun x => Zbk x)) ZAK ?_
        refine Exists.intro _ (And.intro (WE.refl _) ?_)
        rw [← List.map_append]
        refine st ?_
        refine AWP.seq ?_
        refine ns ?_
        intro hlen150
        (try rw [List.length_map] at hlen150)
        (try rw [List.length_map])
        refine st ?_
        refine AWP.block ?_
        refine AWP.loop ?_
        refine AWL.weak (rn [(83, 0)]) ?_ (Zi8 (ZrV ++ ([e.fName])) e 0 e.fAlts _ hF ([]) rfl rfl hlen150)
        exact (WS.mk (Zj (ZH rfl (WE.refl _)) (tp (tc (tc (tc Ze))))) (Za rfl (cc (cc (cc (cc (cc (cc (cc Zb))))))) Zf))
       ·refine nw ?_
        refine AWP.weak (rn [(14, 0)]) ?_ (ZeC (l ++ ([(ByteArray.mk #[40])])) e _ hF)
        exact (WS.mk (Zj (ZH rfl (WE.refl _)) (tp Ze)) (Za rfl (cc (cc (cc (cc (cc (cc (cc Zb))))))) Zf))
 ·intro stg_put_l5' stg_putAlt' Zi8 ZpW l_0 e Zqy Zka r hF
  unfold ZgC.M
  intro Zmu Zs6 Ztf hlen150
  refine AWL.step ?_
  refine AWP.seq ?_
  refine ns ?_
  refine AWP.seq ?_
  refine nw ?_
  refine ZB Zs6 Ztf (fun Zvl ZvC Zwb ZyX ZAG => ?_) (fun Zwb => ?_)
  ·subst Zwb
   refine nw ?_
   refine AWP.seq ?_
   refine AWP.block ?_
   refine AWP.seq ?_
   refine nn ?_
   refine sr (Z9 (f := Zi.cells) (Zi.cells_eq Zvl) ZyX) ?_
   refine st ?_
   obtain ⟨Zxd, ZzX, hF⟩ := bind_some hF
   refine ns ?_
   refine e3 ?_
   refine st ?_
   refine cm (Zn.weak (rn [(0, 0)]) (ZpW l_0 Zvl _ ZzX) rfl (WS.mk (Zj (ZH rfl (WE.refl _)) (Zj (ZaM (lc (lc (lc (lc (lc (lc (lc (lc (lc (lc (lc Zr)))))))))))) Ze)) Zf)) ?_
   refine st ?_
   refine ns ?_
   refine AWL.weak (rn [(93, 0)]) ?_ (Zi8 Zxd e (Zqy + 1) ZvC _ hF (Zmu ++ [Zvl]) (by rw [Zs6]; simp) (by rw [Ztf]; simp) hlen150)
   exact (WS.mk (Zj (ZH rfl (WE.refl _)) (tp (tc (tc (Zj (Zaj (Zcw (ZD hlen150 ZAG))) Ze))))) (Za rfl (cc (cc (cc (cc (cc (cc (cc Zb))))))) Zf))
  ·subst Zwb
   refine nw ?_
   refine AWP.weak (rn [(0, 0)]) ?_ (ZeC l_0 e _ hF)
   exact (WS.mk (Zj (ZH rfl (WE.refl _)) (tp Ze)) (Za rfl (cc (cc (cc (cc (cc (cc (cc Zb))))))) Zf))
 ·intro stg_putAlt_k1' ZfZ l a r hF
  unfold ZhA.M
  refine en Tryz.func102 ?_
  refine AWP.seq ?_
  refine ns ?_
  refine AWP.seq ?_
  obtain ⟨hg1, hF⟩ := ZV hF
  refine ns ?_
  refine Exists.intro _ (And.intro (ZE (f := c_S) (lc Zr) (Zx (f := c_S))) ?_)
  refine sa (fun l => ZaE l (fun x => Zbk x)) hg1 ?_
  refine Exists.intro _ (And.intro (WE.refl _) ?_)
  rw [← List.map_append]
  refine st ?_
  refine AWP.seq ?_
  refine AWP.seq ?_
  refine ns ?_
  refine AWP.block ?_
  refine AWP.seq ?_
  refine ns ?_
  refine nw ?_
  refine Zw hF (fun Zhc hF => ?_) (fun Zhc hF => ?_)
  ·obtain ⟨Zyq, hF⟩ := ZV hF
   obtain ⟨r20, Zyo, hF⟩ := bind_some hF
   refine nn ?_
   refine Or.inl (Or.inr (Exists.intro [1, 2, 3, 5, 6] (Exists.intro [[16, 17, 18, 20, 21], [17, 18, 20, 21], [18, 20, 21], [16, 17, 18, 20, 21], [16, 17, 18, 21]] (Exists.intro [3] (Exists.intro [3, 16, 17, 18, 20, 21] (Exists.intro [16, 17, 18, 20, 21] (Exists.intro [0, 4, 7, 8] (And.intro (by decide +kernel) ?_))))))))
   refine dp ?_
   refine dp ?_
   refine de (ZE (f := c_S) (lc Zr) (ZE (f := c_S) (lc Zr) (Zx (f := c_S)))) ?_
   refine dp ?_
   refine dp ?_
   refine sa (fun l => ZaE l (fun x => Zbk x)) Zyq ?_
   refine Exists.intro _ (And.intro (WE.refl _) ?_)
   rw [← List.map_append]
   refine st ?_
   refine e3 ?_
   refine st ?_
   refine cm (Zn.weak (rn [(19, 0)]) (Zk9 ((l ++ ([(ByteArray.mk #[40])])) ++ ([(ByteArray.mk #[97, 108, 116]), a.fName])) a.fVars _ Zyo) rfl (WS.mk (Zj (ZH rfl (WE.refl _)) (tc Ze)) Zf)) ?_
   refine st ?_
   refine AWP.weak (rn [(22, 0)]) ?_ (ZfZ r20 a _ hF)
   exact (WS.mk (Zj (ZH rfl (WE.refl _)) (tp Ze)) (Za rfl (cc (cc (cc (cc (cc (cc (cc (cc (cc (cc (cc Zb))))))))))) Zf))
  ·refine AWP.seq ?_
   refine ns ?_
   refine nw ?_
   refine Zw hF (fun ZvQ hF => ?_) (fun ZvQ hF => ?_)
   ·obtain ⟨r22, ZA4, hF⟩ := bind_some hF
    obtain ⟨ZCt, hF⟩ := ZV hF
    refine ns ?_
    refine e3 ?_
    refine st ?_
    refine cm (Zn.weak (rn []) (Zen a.fN _ ZA4) rfl (WS.mk (tc Ze) Zf)) ?_
    refine st ?_
    refine Exists.intro _ (And.intro (ZE (f := c_S) (lc Zr) (ZE (f := c_S) (lc Zr) (Zx (f := c_S)))) ?_)
    refine sa (fun l => ZaE l (fun x => Zbk x)) ZCt ?_
    refine Exists.intro _ (And.intro (WE.refl _) ?_)
    rw [← List.map_append]
    refine st ?_
    refine AWP.weak (rn [(30, 0)]) ?_ (ZfZ ((l ++ ([(ByteArray.mk #[40])])) ++ ([(ByteArray.mk #[105, 110, 116]), r22])) a _ hF)
    exact (WS.mk (Zj (ZH rfl (WE.refl _)) (tp Ze)) (Za rfl (cc (cc (cc (cc (cc (cc (cc (cc (cc (cc (cc Zb))))))))))) Zf))
   ·refine AWP.seq ?_
    refine ns ?_
    refine nw ?_
    refine Zw hF (fun Znl hF => ?_) (fun Znl hF => ?_)
    ·obtain ⟨r25, ZB0, hF⟩ := bind_some hF
     obtain ⟨Zxu, hF⟩ := ZV hF
     refine ns ?_
     refine e3 ?_
     refine st ?_
     refine cm (Zn.weak (rn []) (Zen a.fN _ ZB0) rfl (WS.mk (tc Ze) Zf)) ?_
     refine st ?_
     refine Exists.intro _ (And.intro (ZE (f := c_S) (lc Zr) (ZE (f := c_S) (lc Zr) (Zx (f := c_S)))) ?_)
     refine sa (fun l => ZaE l (fun x => Zbk x)) Zxu ?_
     refine Exists.intro _ (And.intro (WE.refl _) ?_)
     rw [← List.map_append]
     refine st ?_
     refine AWP.weak (rn [(38, 0)]) ?_ (ZfZ ((l ++ ([(ByteArray.mk #[40])])) ++ ([(ByteArray.mk #[99, 104, 97, 114]), r25])) a _ hF)
     exact (WS.mk (Zj (ZH rfl (WE.refl _)) (tp Ze)) (Za rfl (cc (cc (cc (cc (cc (cc (cc (cc (cc (cc (cc Zb))))))))))) Zf))
    ·obtain ⟨ZBi, hF⟩ := ZV hF
     refine ns ?_
     refine Exists.intro _ (And.intro (ZE (f := c_S) (lc Zr) (Zx (f := c_S))) ?_)
     refine sa (fun l => ZaE l (fun x => Zbk x)) ZBi ?_
     refine Exists.intro _ (And.intro (WE.refl _) ?_)
     rw [← List.map_append]
     refine st ?_
     refine AWP.weak (rn [(12, 0)]) ?_ (ZfZ ((l ++ ([(ByteArray.mk #[40])])) ++ ([(ByteArray.mk #[100, 101, 102, 97, 117, 108, 116])])) a _ hF)
     exact (WS.mk (Zj (ZH rfl (WE.refl _)) (tp Ze)) (Za rfl (cc (cc (cc (cc (cc (cc (cc (cc (cc (cc (cc Zb))))))))))) Zf))
 ·intro stg_put' ZgB l_0 a r hF
  unfold ZdJ.M
  refine AWP.seq ?_
  obtain ⟨r14, Zm8, hF⟩ := bind_some hF
  obtain ⟨ZB6, hF⟩ := ZV hF
  refine ns ?_
  refine e3 ?_
  refine st ?_
  refine cm (Zn.weak (rn [(0, 0)]) (ZgB l_0 a.fBody _ Zm8) rfl (WS.mk (Zj (ZH rfl (WE.refl _)) (Zj (ZaM (lc (lc (lc (lc (lc (lc (lc Zr)))))))) Ze)) Zf)) ?_
  refine st ?_
  refine Exists.intro _ (And.intro (ZE (f := c_S) (lc Zr) (Zx (f := c_S))) ?_)
  refine sa (fun l => ZaE l (fun x => Zbk x)) ZB6 ?_
  refine Exists.intro _ (And.intro (WE.refl _) ?_)
  rw [← List.map_append]
  refine st ?_
  obtain rfl := Zs hF
  refine ns ?_
  refine Exists.intro [] ?_
  refine st ?_
  exact Exists.intro (rn [(44, 0)]) (WS.mk (Zj (ZH rfl (WE.refl _)) Ze) Zf)
 ·intro stg_put_l4' Zi7 l Zdv e r hF
  unfold ZgD.M
  refine AWP.seq ?_
  obtain ⟨Zy6, hF⟩ := ZV hF
  refine ns ?_
  refine Exists.intro _ (And.intro (ZE (f := c_S) (lc Zr) (Zx (f := c_S))) ?_)
  refine sa (fun l => ZaE l (fun x => Zbk x)) Zy6 ?_
  refine Exists.intro _ (And.intro (WE.refl _) ?_)
  rw [← List.map_append]
  refine st ?_
  refine AWP.seq ?_
  refine AWP.seq ?_
  refine ns ?_
  intro hlen120
  (try rw [List.length_map] at hlen120)
  (try rw [List.length_map])
  refine st ?_
  refine AWP.block ?_
  refine AWP.loop ?_
  refine AWL.weak (rn [(50, 0)]) ?_ (Zi7 ((l ++ ([(ByteArray.mk #[40])])) ++ ([Zdv])) e 0 e.fBinds _ hF ([]) rfl rfl hlen120)
  exact (WS.mk (Zj (ZH rfl (WE.refl _)) (tp (tc (tc (tc Ze))))) (Za rfl (cc (cc (cc (cc (cc (cc (cc Zb))))))) Zf))
 ·intro stg_putBind' stg_put' stg_put_l4' ZoL ZgB Zi7 l_0 e ZqR Zkj r hF
  unfold ZgA.M
  intro Zmi ZtJ Ztr hlen120
  refine AWL.step ?_
  refine AWP.seq ?_
  refine ns ?_
  refine AWP.seq ?_
  refine nw ?_
  refine ZB ZtJ Ztr (fun ZuC Zu4 ZvS Zzj ZAA => ?_) (fun ZvS => ?_)
  ·subst ZvS
   refine nw ?_
   refine AWP.seq ?_
   refine AWP.block ?_
   refine AWP.seq ?_
   refine nn ?_
   refine sr (Z9 (f := Zc.cells) (Zc.cells_eq ZuC) Zzj) ?_
   refine st ?_
   obtain ⟨Zc1, ZrD, hF⟩ := bind_some hF
   refine ns ?_
   refine e3 ?_
   refine st ?_
   refine cm (Zn.weak (rn [(0, 0)]) (ZoL l_0 ZuC _ ZrD) rfl (WS.mk (Zj (ZH rfl (WE.refl _)) (Zj (ZaM (lc (lc (lc (lc (lc (lc (lc (lc (lc (lc (lc Zr)))))))))))) Ze)) Zf)) ?_
   refine st ?_
   refine ns ?_
   refine AWL.weak (rn [(60, 0)]) ?_ (Zi7 Zc1 e (ZqR + 1) Zu4 _ hF (Zmi ++ [ZuC]) (by rw [ZtJ]; simp) (by rw [Ztr]; simp) hlen120)
   exact (WS.mk (Zj (ZH rfl (WE.refl _)) (tp (tc (tc (Zj (Zaj (Zcw (ZD hlen120 ZAA))) Ze))))) (Za rfl (cc (cc (cc (cc (cc (cc (cc Zb))))))) Zf))
  ·subst ZvS
   refine nw ?_
   obtain ⟨ZwS, hx1370, ZzN, hF⟩ := ZiQ hF
   obtain ⟨ZzQ, hF⟩ := ZV hF
   obtain ⟨Zxy, ZzD, hF⟩ := bind_some hF
   refine nn ?_
   refine Or.inl (Or.inr (Exists.intro [1, 3, 4, 5, 6] (Exists.intro [[63, 65, 66, 67, 68], [63, 65, 66, 67, 68], [63, 66, 67, 68], [63, 67, 68], [63, 68]] (Exists.intro [3] (Exists.intro [3, 63, 65, 66, 67, 68] (Exists.intro [63, 65, 66, 67, 68] (Exists.intro [0, 2, 7, 8] (And.intro (by decide +kernel) ?_))))))))
   refine de (ZE (f := c_S) (lc Zr) (Zx (f := c_S))) ?_
   refine dp ?_
   refine dp ?_
   refine dr (ZhL (Zo.cells_eq ZwS) ZzN) ?_
   refine dp ?_
   refine sa (fun l => ZaE l (fun x => Zbk x)) ZzQ ?_
   refine Exists.intro _ (And.intro (WE.refl _) ?_)
   rw [← List.map_append]
   refine st ?_
   refine e3 ?_
   refine st ?_
   refine cm (Zn.weak (rn [(64, 0)]) (ZgB (l_0 ++ ([(ByteArray.mk #[105, 110])])) ZwS _ ZzD) rfl (WS.mk (Zj (ZH rfl (WE.refl _)) (Zj (ZaM (lc (lc (lc (lc (lc (lc (lc Zr)))))))) Ze)) Zf)) ?_
   refine st ?_
   refine AWP.weak (rn [(69, 0)]) ?_ (ZeC Zxy e _ hF)
   exact (WS.mk (Zj (ZH rfl (WE.refl _)) (tp Ze)) (Za rfl (cc (cc (cc (cc (cc (cc (cc Zb))))))) Zf))
theorem ZoJ : ∀ (l : (List ByteArray)) (b : Zc), ∀ r, Zc6 l b = some r → Zc6.M l b r := Zn8.1

def Zdf (l_3 : (List ByteArray)) (p : ZG) (ZmG : Nat) (Zgx : (List Zc)) : Option (ByteArray) :=
 (match Zgx with
 | x86 :: Zxb =>
 Zc6 l_3 x86 >>= fun r89 =>
 Zdf r89 p (ZmG + 1) Zxb
 | [] =>
 ZaY ((l_3.length + ([(ByteArray.mk #[41])]).length) * 16 ≤ 140737488355328) >>= fun _ =>
 strings_Join (l_3 ++ ([(ByteArray.mk #[41])])) (ByteArray.mk #[32]) >>= fun r91 =>
 some r91)
 partial_fixpoint
def Zdf.M (l_3 : (List ByteArray)) (p : ZG) (ZmG : Nat) (Zgx : (List Zc)) (r : ByteArray) : Prop :=
 ∀ ZmE : List Zc, p.fBinds = ZmE ++ Zgx → ZmG = ZmE.length → p.fCons.length ≤ maxLen → p.fBinds.length ≤ maxLen → AWL Tryz.prog 49 (Code.sub (Zt Tryz.f13) [1, 1, 1, 1, 1, 0, 1, 0, 0]) (Code.cont Tryz.prog 49 (Zt Tryz.f13) [1, 1, 1, 1, 1, 0, 1, 0] (Zbl tab Tryz.f13.results (Zbo (.c none (.v (.string r))) []))) ⟨[(3, .c (some (3, 9)) (.sl (l_3.map c_S))), (35, .c none (.sl (p.fBinds.map Zc.cells))), (36, .c none (.v (.int .i64 ((p.fBinds.length : Nat) : Int)))), (37, .c none (.v (.int .i64 ((ZmG : Nat) : Int))))], []⟩
theorem ZnQ (l_3 : (List ByteArray)) (p : ZG) (ZmG : Nat) (Zgx : (List Zc)) : ∀ r, Zdf l_3 p ZmG Zgx = some r → Zdf.M l_3 p ZmG Zgx r := by
 refine Zdf.partial_correctness p (fun l_3 ZmG Zgx r => Zdf.M l_3 p ZmG Zgx r) ?_ l_3 ZmG Zgx
 intro stg_Print_l2' Zjv l_3 ZmG Zgx r hF
 have ZnV := fun (l_3 : (List ByteArray)) (_p : ZG) (ZmG : Nat) (Zgx : (List Zc)) => Zjv l_3 ZmG Zgx
 clear Zjv
 unfold Zdf.M
 intro ZmE Zta ZtC hlen33 hlen76
 refine AWL.step ?_
 refine AWP.seq ?_
 refine ns ?_
 refine AWP.seq ?_
 refine nw ?_
 refine ZB Zta ZtC (fun x86 Zxb ZxS ZBM ZBU => ?_) (fun ZxS => ?_)
 ·subst ZxS
  refine nw ?_
  refine AWP.seq ?_
  refine AWP.block ?_
  refine AWP.seq ?_
  refine nn ?_
  refine sr (Z9 (f := Zc.cells) (Zc.cells_eq x86) ZBM) ?_
  refine st ?_
  obtain ⟨r89, ZBV, hF⟩ := bind_some hF
  refine ns ?_
  refine e3 ?_
  refine st ?_
  refine cm (Zn.weak (rn [(3, 0)]) (ZoJ l_3 x86 _ ZBV) rfl (WS.mk (Zj (ZH rfl (WE.refl _)) (Zj (ZaM (lc (lc (lc (lc (lc (lc (lc (lc (lc (lc (lc Zr)))))))))))) Ze)) Zf)) ?_
  refine st ?_
  refine ns ?_
  refine AWL.weak (rn [(43, 3)]) ?_ (ZnV r89 p (ZmG + 1) Zxb _ hF (ZmE ++ [x86]) (by rw [Zta]; simp) (by rw [ZtC]; simp) hlen33 hlen76)
  exact (WS.mk (Zj (ZH rfl (WE.refl _)) (tc (tc (Zj (Zaj (Zcw (ZD hlen76 ZBU))) Ze)))) Zf)
 ·subst ZxS
  refine nw ?_
  refine AWP.seq ?_
  obtain ⟨ZBx, hF⟩ := ZV hF
  obtain ⟨r91, ZCr, hF⟩ := bind_some hF
  refine ns ?_
  refine Exists.intro _ (And.intro (ZE (f := c_S) (lc Zr) (Zx (f := c_S))) ?_)
  refine sa (fun l => ZaE l (fun x => Zbk x)) ZBx ?_
  refine Exists.intro _ (And.intro (WE.refl _) ?_)
  rw [← List.map_append]
  refine st ?_
  refine Exists.intro [47] (Exists.intro [] (Exists.intro [] ?_))
  refine st ?_
  refine cm (Zn.weak (rn []) (Zoa (l_3 ++ ([(ByteArray.mk #[41])])) (ByteArray.mk #[32]) _ ZCr) rfl (WS.mk (tc (tc Ze)) Zf)) ?_
  refine st ?_
  obtain rfl := Zs hF
  refine ns ?_
  refine Exists.intro [] ?_
  refine st ?_
  exact wx (WS.mk (tc Ze) Zf)

def Zdl (l_3 : (List ByteArray)) (p : ZG) (ZmI : Nat) (Zgu : (List ZT)) : Option (ByteArray) :=
 (match Zgu with
 | x53 :: ZxD =>
 strconv_Itoa x53.fTag >>= fun r59 =>
 strconv_Itoa x53.fArity >>= fun r60 =>
 ZaY ((l_3.length + ([(ByteArray.mk #[40]), x53.fName, r59, r60, (ByteArray.mk #[41])]).length) * 16 ≤ 140737488355328) >>= fun _ =>
 Zdl (l_3 ++ ([(ByteArray.mk #[40]), x53.fName, r59, r60, (ByteArray.mk #[41])])) p (ZmI + 1) ZxD
 | [] =>
 ZaY ((l_3.length + ([(ByteArray.mk #[41])]).length) * 16 ≤ 140737488355328) >>= fun _ =>
 Zdf (l_3 ++ ([(ByteArray.mk #[41])])) p 0 p.fBinds)
 partial_fixpoint
def Zdl.M (l_3 : (List ByteArray)) (p : ZG) (ZmI : Nat) (Zgu : (List ZT)) (r : ByteArray) : Prop :=
 ∀ ZmK : List ZT, p.fCons = ZmK ++ Zgu → ZmI = ZmK.length → p.fCons.length ≤ maxLen → AWL Tryz.prog 49 (Code.sub (Zt Tryz.f13) [1, 1, 1, 0, 1, 0, 0]) (Code.cont Tryz.prog 49 (Zt Tryz.f13) [1, 1, 1, 0, 1, 0] (Zbl tab Tryz.f13.results (Zbo (.c none (.v (.string r))) []))) ⟨[(1, .ptr 1 0), (3, .c (some (3, 9)) (.sl (l_3.map c_S))), (13, .c none (.sl (p.fCons.map ZT.cells))), (14, .c none (.v (.int .i64 ((p.fCons.length : Nat) : Int)))), (15, .c none (.v (.int .i64 ((ZmI : Nat) : Int))))], [(1, [(none, .sl (p.fCons.map ZT.cells)), (none, .sl (p.fBinds.map Zc.cells))])]⟩
theorem ZnT (l_3 : (List ByteArray)) (p : ZG) (ZmI : Nat) (Zgu : (List ZT)) : ∀ r, Zdl l_3 p ZmI Zgu = some r → Zdl.M l_3 p ZmI Zgu r := by
 refine Zdl.partial_correctness p (fun l_3 ZmI Zgu r => Zdl.M l_3 p ZmI Zgu r) ?_ l_3 ZmI Zgu
 intro stg_Print_l1' Zjp l_3 ZmI Zgu r hF
 have Zn6 := fun (l_3 : (List ByteArray)) (_p : ZG) (ZmI : Nat) (Zgu : (List ZT)) => Zjp l_3 ZmI Zgu
 clear Zjp
 unfold Zdl.M
 intro ZmK Ztv ZtO hlen33
 refine AWL.step ?_
 refine AWP.seq ?_
 refine ns ?_
 refine AWP.seq ?_
 refine nw ?_
 refine ZB Ztv ZtO (fun x53 ZxD Zyp ZBe ZBZ => ?_) (fun Zyp => ?_)
 ·subst Zyp
  refine nw ?_
  refine AWP.seq ?_
  refine AWP.block ?_
  refine AWP.seq ?_
  refine nn ?_
  refine sr (Z9 (f := ZT.cells) (ZT.cells_eq x53) ZBe) ?_
  refine st ?_
  obtain ⟨r59, Zx8, hF⟩ := bind_some hF
  obtain ⟨r60, Zwl, hF⟩ := bind_some hF
  obtain ⟨ZyW, hF⟩ := ZV hF
  refine nn ?_
  refine Or.inl (Or.inl (Exists.intro 10 (Exists.intro [[], [], [], [], [], [], [], [], [], []] (Exists.intro [([19, 20, 21, 22, 23, 24, 25, 26, 27, 28], [], []), ([19, 20, 21, 22, 23, 24, 25, 26, 27, 28], [], []), ([19, 21, 22, 23, 24, 25, 26, 27, 28], [], []), ([19, 20, 21, 22, 23, 24, 25, 26, 27, 28], [], []), ([19, 20, 21, 23, 24, 25, 26, 27, 28], [], []), ([19, 20, 21, 24, 25, 26, 27, 28], [], []), ([19, 20, 21, 22, 23, 24, 25, 26, 27, 28], [], []), ([19, 20, 21, 22, 23, 24, 26, 27, 28], [], []), ([19, 20, 21, 27, 28], [], []), ([19, 28], [], [])] (Exists.intro [19, 20, 21, 22, 23, 24, 25, 26, 27, 28] (And.intro (by decide +kernel) ?_))))))
  refine dp ?_
  refine dp ?_
  refine dp ?_
  refine dp ?_
  refine dp ?_
  (refine st ?_; apply Exists.intro; apply Exists.intro; apply And.intro; (focus ((conv => whnf); refine Exists.intro [] ?_; (conv => whnf); refine And.intro rfl ?_; (conv => whnf); refine Zn.mono (Zn.weak (rn []) (Zen x53.fTag _ Zx8) rfl (WS.mk (tc Ze) Zf)) ?_; rintro d b ⟨rfl, rfl⟩; exact And.intro rfl (And.intro rfl rfl))); apply And.intro; (focus exact rfl); (conv => whnf))
  refine dp ?_
  refine dp ?_
  (refine st ?_; apply Exists.intro; apply Exists.intro; apply And.intro; (focus ((conv => whnf); refine Exists.intro [] ?_; (conv => whnf); refine And.intro rfl ?_; (conv => whnf); refine Zn.mono (Zn.weak (rn []) (Zen x53.fArity _ Zwl) rfl (WS.mk (tc Ze) Zf)) ?_; rintro d b ⟨rfl, rfl⟩; exact And.intro rfl (And.intro rfl rfl))); apply And.intro; (focus exact rfl); (conv => whnf))
  refine de (ZE (f := c_S) (lc Zr) (ZE (f := c_S) (lc Zr) (ZE (f := c_S) (lc Zr) (ZE (f := c_S) (lc Zr) (ZE (f := c_S) (lc Zr) (Zx (f := c_S))))))) ?_
  refine sa (fun l => ZaE l (fun x => Zbk x)) ZyW ?_
  refine Exists.intro _ (And.intro (WE.refl _) ?_)
  rw [← List.map_append]
  refine st ?_
  refine ns ?_
  refine AWL.weak (rn [(29, 3)]) ?_ (Zn6 (l_3 ++ ([(ByteArray.mk #[40]), x53.fName, r59, r60, (ByteArray.mk #[41])])) p (ZmI + 1) ZxD _ hF (ZmK ++ [x53]) (by rw [Ztv]; simp) (by rw [ZtO]; simp) hlen33)
  exact (WS.mk (tp (Zj (ZH rfl (WE.refl _)) (tc (tc (Zj (Zaj (Zcw (ZD hlen33 ZBZ))) Ze))))) (Za rfl (cc (cc Zb)) Zf))
 ·subst Zyp
  refine nw ?_
  refine AWP.seq ?_
  obtain ⟨ZBw, hF⟩ := ZV hF
  refine ns ?_
  refine Exists.intro _ (And.intro (ZE (f := c_S) (lc Zr) (Zx (f := c_S))) ?_)
  refine sa (fun l => ZaE l (fun x => Zbk x)) ZBw ?_
  refine Exists.intro _ (And.intro (WE.refl _) ?_)
  rw [← List.map_append]
  refine st ?_
  refine AWP.seq ?_
  refine AWP.seq ?_
  refine ns ?_
  intro hlen76
  (try rw [List.length_map] at hlen76)
  (try rw [List.length_map])
  refine st ?_
  refine AWP.block ?_
  refine AWP.loop ?_
  refine AWL.weak (rn [(33, 3)]) ?_ (ZnQ (l_3 ++ ([(ByteArray.mk #[41])])) p 0 p.fBinds _ hF ([]) rfl rfl hlen33 hlen76)
  exact (WS.mk (Zj (ZH rfl (WE.refl _)) (tc (tc (tc Ze)))) Zf)

def ZeH (p : ZG) : Option (ByteArray) :=
 Ze6 p >>= fun r3 =>
 if (r3 != 0) = true then
 some (ByteArray.mk #[])
 else
 Zdl ([(ByteArray.mk #[40]), (ByteArray.mk #[112, 114, 111, 103, 114, 97, 109]), (ByteArray.mk #[40])]) p 0 p.fCons
def ZeH.M (p : ZG) (r : ByteArray) : Prop :=
 Zn Tryz.prog 13 [.agg [.sl (p.fCons.map ZT.cells), .sl (p.fBinds.map Zc.cells)]] [] (fun d b => d = .c none (.v (.string r)) ∧ b = [])
theorem ZmQ (p : ZG) (r : ByteArray) (hF : ZeH p = some r) : ZeH.M p r := by
 unfold ZeH at hF
 unfold ZeH.M
 refine en Tryz.func13 ?_
 refine AWP.seq ?_
 refine ns ?_
 refine AWP.seq ?_
 refine AWP.seq ?_
 obtain ⟨r3, hr3, hF⟩ := bind_some hF
 refine ns ?_
 refine e3 ?_
 refine st ?_
 refine cm (Zn.weak (rn []) (ZmB p _ hr3) rfl (WS.mk (Zj (ZaM (lc (lc Zr))) Ze) Zf)) ?_
 refine st ?_
 refine nw ?_
 refine Zw hF (fun hc4 hF => ?_) (fun hc4 hF => ?_)
 ·refine AWP.seq ?_
  refine ns ?_
  obtain rfl := Zs hF
  refine ns ?_
  refine Exists.intro [] ?_
  refine st ?_
  exact wx (WS.mk (tc Ze) Zf)
 ·refine nw ?_
  refine AWP.seq ?_
  refine ns ?_
  refine Exists.intro _ (And.intro (ZE (f := c_S) (lc Zr) (ZE (f := c_S) (lc Zr) (ZE (f := c_S) (lc Zr) (Zx (f := c_S))))) ?_)
  refine st ?_
  refine AWP.seq ?_
  refine AWP.seq ?_
  refine ns ?_
  intro hlen33
  (try rw [List.length_map] at hlen33)
  (try rw [List.length_map])
  refine st ?_
  refine AWP.block ?_
  refine AWP.loop ?_
  refine AWL.weak (rn [(11, 3)]) ?_ (ZnT ([(ByteArray.mk #[40]), (ByteArray.mk #[112, 114, 111, 103, 114, 97, 109]), (ByteArray.mk #[40])]) p 0 p.fCons _ hF ([]) rfl rfl hlen33)
  exact (WS.mk (tp (Zj (ZH rfl (WE.refl _)) (tc (tc (tc Ze))))) (Za rfl (cc (cc Zb)) Zf))

def Zar (p : Zg) : Option (ByteArray) :=
 if (decide (p.fat ≥ ((p.fwords.length : Nat) : Int))) = true then
 none
 else
 (ixI p.fwords p.fat) >>= fun x4 =>
 some x4
def Zar.M (p : Zg) (r : ByteArray) : Prop :=
 Zn Tryz.prog 92 [.ptr 1000 0] [(1000, [(none, .sl (p.fwords.map c_S)), (none, .v (.int .i64 p.fat)), (none, .v (.int .i64 p.fdepth))])] (fun d b => d = .c none (.v (.string r)) ∧ b = [(1000, [(none, .sl (p.fwords.map c_S)), (none, .v (.int .i64 p.fat)), (none, .v (.int .i64 p.fdepth))])])
theorem ZcY (p : Zg) (r : ByteArray) (hF : Zar p = some r) : Zar.M p r := by
 unfold Zar at hF
 unfold Zar.M
 refine en Tryz.func92 ?_
 refine AWP.seq ?_
 refine ns ?_
 refine AWP.seq ?_
 refine AWP.seq ?_
 refine nn ?_
 refine Or.inl (Or.inl (Exists.intro 9 (Exists.intro [[], [], [], [], [], [], [], [], []] (Exists.intro [([3, 4, 5, 6, 7, 8, 9, 10, 11], [], []), ([4, 5, 6, 7, 8, 9, 10, 11], [], []), ([5, 6, 7, 8, 9, 10, 11], [], []), ([6, 7, 8, 9, 10, 11], [], []), ([3, 4, 5, 6, 7, 8, 9, 10, 11], [], []), ([3, 4, 5, 6, 8, 9, 10, 11], [], []), ([3, 4, 5, 6, 9, 10, 11], [], []), ([3, 4, 5, 6, 10, 11], [], []), ([3, 4, 5, 6, 11], [], [])] (Exists.intro [3, 4, 5, 6, 7, 8, 9, 10, 11] (And.intro (by decide +kernel) ?_))))))
 refine dp ?_
 refine dp ?_
 refine dp ?_
 refine dp ?_
 refine dp ?_
 refine dp ?_
 refine dp ?_
 refine dp ?_
 refine dl ?_
 refine st ?_
 refine nw ?_
 refine Zw hF (fun hc2 hF => ?_) (fun hc2 hF => ?_)
 ·cases hF
 ·refine nw ?_
  refine AWP.seq ?_
  obtain ⟨x4, hx40, hx4, hF⟩ := ZiQ hF
  refine nn ?_
  refine Or.inl (Or.inl (Exists.intro 8 (Exists.intro [[], [], [], [], [], [], [], []] (Exists.intro [([15, 16, 17, 18, 19, 20, 21, 22], [], []), ([16, 17, 18, 19, 20, 21, 22], [], []), ([17, 18, 19, 20, 21, 22], [], []), ([18, 19, 20, 21, 22], [], []), ([15, 16, 17, 18, 19, 20, 21, 22], [], []), ([15, 16, 17, 18, 20, 21, 22], [], []), ([15, 16, 17, 18, 21, 22], [], []), ([15, 16, 17, 18, 22], [], [])] (Exists.intro [15, 16, 17, 18, 19, 20, 21, 22] (And.intro (by decide +kernel) ?_))))))
  refine dp ?_
  refine dp ?_
  refine dp ?_
  refine dp ?_
  refine dp ?_
  refine dp ?_
  refine dp ?_
  refine dp ?_
  refine sr (ZhL (f := c_S) rfl hx4) ?_
  refine st ?_
  obtain rfl := Zs hF
  refine ns ?_
  refine Exists.intro [(1000, 1000)] ?_
  refine st ?_
  exact wx (WS.mk (tc Ze) (Za rfl (cc (cc (cc Zb))) Zf))

def Zy (p : Zg) : Option (ByteArray × Zg) :=
 Zar p >>= fun r1 =>
 some (r1, Zg.mk p.fwords (IntKind.i64.wrap (p.fat + 1)) p.fdepth)
def Zy.M (p : Zg) (r : ByteArray × Zg) : Prop :=
 Zn Tryz.prog 93 [.ptr 1000 0] [(1000, [(none, .sl (p.fwords.map c_S)), (none, .v (.int .i64 p.fat)), (none, .v (.int .i64 p.fdepth))])] (fun d b => d = .c none (.v (.string r.1)) ∧ b = [(1000, [(none, .sl (r.2.fwords.map c_S)), (none, .v (.int .i64 r.2.fat)), (none, .v (.int .i64 r.2.fdepth))])])
theorem ZaK (p : Zg) (r : ByteArray × Zg) (hF : Zy p = some r) : Zy.M p r := by
 unfold Zy at hF
 unfold Zy.M
 refine en Tryz.func93 ?_
 refine AWP.seq ?_
 refine ns ?_
 refine AWP.seq ?_
 obtain ⟨r1, hr1, hF⟩ := bind_some hF
 refine ns ?_
 refine Exists.intro [] (Exists.intro [(1000, 1000)] (Exists.intro [] ?_))
 refine st ?_
 refine cm (Zn.weak (rn []) (ZcY p _ hr1) rfl (WS.mk (tp Ze) (Za rfl (cc (cc (cc Zb))) Zf))) ?_
 refine st ?_
 refine AWP.seq ?_
 refine ns ?_
 refine AWP.seq ?_
 refine ns ?_
 obtain rfl := Zs hF
 refine ns ?_
 refine Exists.intro [(1000, 1000)] ?_
 refine st ?_
 exact wx (WS.mk (tc Ze) (Za rfl (cc (cc (cc Zb))) Zf))

def ZaD (p : Zg) : Option (Int × Zg) :=
 Zy p >>= fun r1 =>
 Zdd r1.1 >>= fun r2 =>
 if r2.2 = true then
 none
 else
 some (r2.1, r1.2)
def ZaD.M (p : Zg) (r : Int × Zg) : Prop :=
 Zn Tryz.prog 94 [.ptr 1000 0] [(1000, [(none, .sl (p.fwords.map c_S)), (none, .v (.int .i64 p.fat)), (none, .v (.int .i64 p.fdepth))])] (fun d b => d = .c none (.v (.int .i64 r.1)) ∧ b = [(1000, [(none, .sl (r.2.fwords.map c_S)), (none, .v (.int .i64 r.2.fat)), (none, .v (.int .i64 r.2.fdepth))])])
theorem Zc5 (p : Zg) (r : Int × Zg) (hF : ZaD p = some r) : ZaD.M p r := by
 unfold ZaD at hF
 unfold ZaD.M
 refine en Tryz.func94 ?_
 refine AWP.seq ?_
 refine ns ?_
 refine AWP.seq ?_
 obtain ⟨r1, hr1, hF⟩ := bind_some hF
 obtain ⟨r2, hr2, hF⟩ := bind_some hF
 refine ns ?_
 refine Exists.intro [] (Exists.intro [(1000, 1000)] (Exists.intro [] ?_))
 refine st ?_
 refine cm (Zn.weak (rn []) (ZaK p _ hr1) rfl (WS.mk (tp Ze) (Za rfl (cc (cc (cc Zb))) Zf))) ?_
 refine st ?_
 refine e3 ?_
 refine st ?_
 refine cm (Zn.weak (rn []) (strconv_Atoi_ok r1.1 _ hr2) rfl (WS.mk (tc Ze) Zf)) ?_
 refine st ?_
 refine AWP.seq ?_
 refine AWP.seq ?_
 refine ns ?_
 refine nw ?_
 refine Zw hF (fun hc3 hF => ?_) (fun hc3 hF => ?_)
 ·cases hF
 ·refine nw ?_
  refine AWP.seq ?_
  refine ns ?_
  obtain rfl := Zs hF
  refine ns ?_
  refine Exists.intro [(1000, 1000)] ?_
  refine st ?_
  exact wx (WS.mk (tc Ze) (Za rfl (cc (cc (cc Zb))) Zf))

def ZaL (l : (List ByteArray)) (x_8 : Nat) (Zl : Zg) (Zch : (List ByteArray)) : Option (Zg) :=
 (match Zch with
 | x13 :: ZkK =>
 Zy Zl >>= fun r16 =>
 if (!(r16.1.toList == x13.toList)) = true then
 none
 else
 ZaL l (x_8 + 1) r16.2 ZkK
 | [] =>
 some Zl)
 partial_fixpoint
def ZaL.M (l : (List ByteArray)) (x_8 : Nat) (Zl : Zg) (Zch : (List ByteArray)) (r : Zg) : Prop :=
 ∀ ZeV : List ByteArray, l = ZeV ++ Zch → x_8 = ZeV.length → l.length ≤ maxLen → AWL Tryz.prog 19 (Code.sub (Zt Tryz.f91) [1, 0, 0]) (Code.cont Tryz.prog 19 (Zt Tryz.f91) [1, 0] (Zbl tab Tryz.f91.results (Zbo (.tup []) [(1000, [(none, .sl (r.fwords.map c_S)), (none, .v (.int .i64 r.fat)), (none, .v (.int .i64 r.fdepth))])]))) ⟨[(0, .ptr 1000 0), (6, .c none (.sl (l.map c_S))), (7, .c none (.v (.int .i64 ((l.length : Nat) : Int)))), (8, .c none (.v (.int .i64 ((x_8 : Nat) : Int))))], [(1000, [(none, .sl (Zl.fwords.map c_S)), (none, .v (.int .i64 Zl.fat)), (none, .v (.int .i64 Zl.fdepth))])]⟩
theorem ZkF (l : (List ByteArray)) (x_8 : Nat) (Zl : Zg) (Zch : (List ByteArray)) : ∀ r, ZaL l x_8 Zl Zch = some r → ZaL.M l x_8 Zl Zch r := by
 refine ZaL.partial_correctness l (fun x_8 Zl Zch r => ZaL.M l x_8 Zl Zch r) ?_ x_8 Zl Zch
 intro stg_parser_want_l1' ZgX x_8 Zl Zch r hF
 have ZkB := fun (_l : (List ByteArray)) (x_8 : Nat) (Zl : Zg) (Zch : (List ByteArray)) => ZgX x_8 Zl Zch
 clear ZgX
 unfold ZaL.M
 intro ZeV Zkb ZjN hlen1
 refine AWL.step ?_
 refine AWP.seq ?_
 refine ns ?_
 refine AWP.seq ?_
 refine nw ?_
 refine ZB Zkb ZjN (fun x13 ZkK Zl1 Zsw ZrI => ?_) (fun Zl1 => ?_)
 ·subst Zl1
  refine nw ?_
  refine AWP.seq ?_
  refine AWP.block ?_
  refine AWP.seq ?_
  refine nn ?_
  refine sr (Z9 (f := c_S) rfl Zsw) ?_
  refine st ?_
  refine AWP.seq ?_
  obtain ⟨r16, ZqH, hF⟩ := bind_some hF
  refine ns ?_
  refine Exists.intro [] (Exists.intro [(1000, 1000)] (Exists.intro [] ?_))
  refine st ?_
  refine cm (Zn.weak (rn []) (ZaK Zl _ ZqH) rfl (WS.mk (tp Ze) (Za rfl (cc (cc (cc Zb))) Zf))) ?_
  refine st ?_
  refine nw ?_
  refine Zw hF (fun ZsV hF => ?_) (fun ZsV hF => ?_)
  ·cases hF
  ·refine nw ?_
   refine ns ?_
   refine AWL.weak (rn []) ?_ (ZkB l (x_8 + 1) r16.2 ZkK _ hF (ZeV ++ [x13]) (by rw [Zkb]; simp) (by rw [ZjN]; simp) hlen1)
   exact (WS.mk (tp (tc (tc (Zj (Zaj (Zcw (ZD hlen1 ZrI))) Ze)))) (Za rfl (cc (cc (cc Zb))) Zf))
 ·subst Zl1
  refine nw ?_
  obtain rfl := Zs hF
  refine Exists.intro [(1000, 1000)] ?_
  refine st ?_
  exact wx (WS.mk (Zj (Zb1 Zb3) Ze) (Za rfl (cc (cc (cc Zb))) Zf))

def ZP (p : Zg) (l : (List ByteArray)) : Option (Zg) :=
 ZaL l 0 p l
def ZP.M (p : Zg) (l : (List ByteArray)) (r : Zg) : Prop :=
 Zn Tryz.prog 91 [.ptr 1000 0, .c none (.sl (l.map c_S))] [(1000, [(none, .sl (p.fwords.map c_S)), (none, .v (.int .i64 p.fat)), (none, .v (.int .i64 p.fdepth))])] (fun d b => d = .tup [] ∧ b = [(1000, [(none, .sl (r.fwords.map c_S)), (none, .v (.int .i64 r.fat)), (none, .v (.int .i64 r.fdepth))])])
theorem ZaC (p : Zg) (l : (List ByteArray)) (r : Zg) (hF : ZP p l = some r) : ZP.M p l r := by
 unfold ZP at hF
 unfold ZP.M
 refine en Tryz.func91 ?_
 refine AWP.seq ?_
 refine ns ?_
 intro hlen1
 (try rw [List.length_map] at hlen1)
 (try rw [List.length_map])
 refine st ?_
 refine AWP.block ?_
 refine AWP.loop ?_
 refine AWL.weak (rn []) ?_ (ZkF l 0 p l _ hF ([]) rfl rfl hlen1)
 exact (WS.mk (tp (tc (tc (tc Ze)))) (Za rfl (cc (cc (cc Zb))) Zf))

def ZcE (ZiS : Zq) (Zl : Zg) : Option (Zq × Zg) :=
 ZP Zl ([(ByteArray.mk #[41])]) >>= fun r9 =>
 some (ZiS, r9)
def ZcE.M (ZiS : Zq) (Zl : Zg) (r : Zq × Zg) : Prop :=
 AWP Tryz.prog 30 (Code.sub (Zt Tryz.f164) [1, 1, 1, 1]) (Code.cont Tryz.prog 30 (Zt Tryz.f164) [1, 1, 1, 1] (Zbl tab Tryz.f164.results (Zbo (.agg [.v (.int .i64 r.1.fOp), .v (.string r.1.fName), .v (.int .i64 r.1.fN)]) [(1000, [(none, .sl (r.2.fwords.map c_S)), (none, .v (.int .i64 r.2.fat)), (none, .v (.int .i64 r.2.fdepth))])]))) ⟨[(0, .ptr 1000 0), (2, .ptr 2 0), (3, .ptr 3 0)], [(2, [(none, .v (.int .i64 0)), (none, .v (.string (ByteArray.mk #[]))), (none, .v (.int .i64 0))]), (3, [(none, .v (.int .i64 ZiS.fOp)), (none, .v (.string ZiS.fName)), (none, .v (.int .i64 ZiS.fN))]), (1000, [(none, .sl (Zl.fwords.map c_S)), (none, .v (.int .i64 Zl.fat)), (none, .v (.int .i64 Zl.fdepth))])]⟩
theorem Zfj (ZiS : Zq) (Zl : Zg) (r : Zq × Zg) (hF : ZcE ZiS Zl = some r) : ZcE.M ZiS Zl r := by
 unfold ZcE at hF
 unfold ZcE.M
 refine AWP.seq ?_
 obtain ⟨r9, hr9, hF⟩ := bind_some hF
 refine ns ?_
 refine Exists.intro _ (And.intro (ZE (f := c_S) (lc Zr) (Zx (f := c_S))) ?_)
 refine st ?_
 refine Exists.intro [27] (Exists.intro [(1000, 1000)] (Exists.intro [] ?_))
 refine st ?_
 refine cm (Zn.weak (rn []) (ZaC Zl ([(ByteArray.mk #[41])]) _ hr9) rfl (WS.mk (tp (tc Ze)) (Za rfl (cc (cc (cc Zb))) Zf))) ?_
 refine st ?_
 refine AWP.seq ?_
 refine ns ?_
 obtain rfl := Zs hF
 refine ns ?_
 refine Exists.intro [(1000, 1000)] ?_
 refine st ?_
 exact wx (WS.mk (Zj (ZaM (lc (lc (lc Zr)))) Ze) (Za rfl (cc (cc (cc Zb))) Zf))

def Zeo (p : Zg) : Option (Zq × Zg) :=
 ZP p ([(ByteArray.mk #[40])]) >>= fun r1 =>
 Zy r1 >>= fun r10 =>
 if (r10.1.toList == (ByteArray.mk #[118, 97, 114]).toList) = true then
 Zy r10.2 >>= fun r12 =>
 ZcE (Zq.mk 1 r12.1 0) r12.2
 else
 if (r10.1.toList == (ByteArray.mk #[105, 110, 116]).toList) = true then
 ZaD r10.2 >>= fun r14 =>
 ZcE (Zq.mk 2 (ByteArray.mk #[]) r14.1) r14.2
 else
 if (r10.1.toList == (ByteArray.mk #[99, 104, 97, 114]).toList) = true then
 ZaD r10.2 >>= fun r16 =>
 ZcE (Zq.mk 3 (ByteArray.mk #[]) r16.1) r16.2
 else
 none
def Zeo.M (p : Zg) (r : Zq × Zg) : Prop :=
 Zn Tryz.prog 164 [.ptr 1000 0] [(1000, [(none, .sl (p.fwords.map c_S)), (none, .v (.int .i64 p.fat)), (none, .v (.int .i64 p.fdepth))])] (fun d b => d = .agg [.v (.int .i64 r.1.fOp), .v (.string r.1.fName), .v (.int .i64 r.1.fN)] ∧ b = [(1000, [(none, .sl (r.2.fwords.map c_S)), (none, .v (.int .i64 r.2.fat)), (none, .v (.int .i64 r.2.fdepth))])])
theorem Zmg (p : Zg) (r : Zq × Zg) (hF : Zeo p = some r) : Zeo.M p r := by
 unfold Zeo at hF
 unfold Zeo.M
 refine en Tryz.func164 ?_
 refine AWP.seq ?_
 refine ns ?_
 refine AWP.seq ?_
 obtain ⟨r1, hr1, hF⟩ := bind_some hF
 refine ns ?_
 refine Exists.intro _ (And.intro (ZE (f := c_S) (lc Zr) (Zx (f := c_S))) ?_)
 refine st ?_
 refine Exists.intro [5] (Exists.intro [(1000, 1000)] (Exists.intro [] ?_))
 refine st ?_
 refine cm (Zn.weak (rn []) (ZaC p ([(ByteArray.mk #[40])]) _ hr1) rfl (WS.mk (tp (tc Ze)) (Za rfl (cc (cc (cc Zb))) Zf))) ?_
 refine st ?_
 refine AWP.seq ?_
 refine ns ?_
 refine AWP.seq ?_
 refine AWP.seq ?_
 obtain ⟨r10, Zra, hF⟩ := bind_some hF
 refine ns ?_
 refine Exists.intro [] (Exists.intro [(1000, 1000)] (Exists.intro [] ?_))
 refine st ?_
 refine cm (Zn.weak (rn []) (ZaK r1 _ Zra) rfl (WS.mk (tp Ze) (Za rfl (cc (cc (cc Zb))) Zf))) ?_
 refine st ?_
 refine AWP.block ?_
 refine AWP.seq ?_
 refine ns ?_
 refine nw ?_
 refine Zw hF (fun ZeF hF => ?_) (fun ZeF hF => ?_)
 ·obtain ⟨r12, Zv5, hF⟩ := bind_some hF
  refine ns ?_
  refine Exists.intro [] (Exists.intro [(1000, 1000)] (Exists.intro [] ?_))
  refine st ?_
  refine cm (Zn.weak (rn []) (ZaK r10.2 _ Zv5) rfl (WS.mk (tp Ze) (Za rfl (cc (cc (cc Zb))) Zf))) ?_
  refine st ?_
  refine AWP.weak (rn []) ?_ (Zfj (Zq.mk 1 r12.1 0) r12.2 _ hF)
  exact (WS.mk (tp (tp (tp Ze))) (Za rfl (cc (cc (cc Zb))) (Za rfl (cc (cc (cc Zb))) (Za rfl (cc (cc (cc Zb))) Zf))))
 ·refine AWP.seq ?_
  refine ns ?_
  refine nw ?_
  refine Zw hF (fun ZdK hF => ?_) (fun ZdK hF => ?_)
  ·obtain ⟨r14, Zm8, hF⟩ := bind_some hF
   refine ns ?_
   refine Exists.intro [] (Exists.intro [(1000, 1000)] (Exists.intro [] ?_))
   refine st ?_
   refine cm (Zn.weak (rn []) (Zc5 r10.2 _ Zm8) rfl (WS.mk (tp Ze) (Za rfl (cc (cc (cc Zb))) Zf))) ?_
   refine st ?_
   refine AWP.weak (rn []) ?_ (Zfj (Zq.mk 2 (ByteArray.mk #[]) r14.1) r14.2 _ hF)
   exact (WS.mk (tp (tp (tp Ze))) (Za rfl (cc (cc (cc Zb))) (Za rfl (cc (cc (cc Zb))) (Za rfl (cc (cc (cc Zb))) Zf))))
  ·refine AWP.seq ?_
   refine ns ?_
   refine nw ?_
   refine Zw hF (fun Zhw hF => ?_) (fun Zhw hF => ?_)
   ·obtain ⟨r16, ZqH, hF⟩ := bind_some hF
    refine ns ?_
    refine Exists.intro [] (Exists.intro [(1000, 1000)] (Exists.intro [] ?_))
    refine st ?_
    refine cm (Zn.weak (rn []) (Zc5 r10.2 _ ZqH) rfl (WS.mk (tp Ze) (Za rfl (cc (cc (cc Zb))) Zf))) ?_
    refine st ?_
    refine AWP.weak (rn []) ?_ (Zfj (Zq.mk 3 (ByteArray.mk #[]) r16.1) r16.2 _ hF)
    exact (WS.mk (tp (tp (tp Ze))) (Za rfl (cc (cc (cc Zb))) (Za rfl (cc (cc (cc Zb))) (Za rfl (cc (cc (cc Zb))) Zf))))
   ·cases hF

def ZbW (ZM : (List Zq)) (Zl : Zg) : Option ((List Zq) × Zg) :=
 Zar Zl >>= fun r15 =>
 if (r15.toList == (ByteArray.mk #[40]).toList) = true then
 Zeo Zl >>= fun r17 =>
 ZaY ((ZM.length + ([r17.1]).length) * 32 ≤ 140737488355328) >>= fun _ =>
 ZbW (ZM ++ ([r17.1])) r17.2
 else
 some (ZM, Zl)
 partial_fixpoint
def ZbW.M (ZM : (List Zq)) (Zl : Zg) (r : (List Zq) × Zg) : Prop :=
 AWL Tryz.prog 13 (Code.sub (Zt Tryz.f144) [1, 1, 0, 0, 0]) (Code.cont Tryz.prog 13 (Zt Tryz.f144) [1, 1, 0, 0] (Zbl tab Tryz.f144.results (Zbo (.c (some (0, 49)) (.sl (r.1.map Zq.cells))) [(1000, [(none, .sl (r.2.fwords.map c_S)), (none, .v (.int .i64 r.2.fat)), (none, .v (.int .i64 r.2.fdepth))])]))) ⟨[(0, .ptr 1000 0), (3, .c (some (3, 49)) (.sl (ZM.map Zq.cells)))], [(1000, [(none, .sl (Zl.fwords.map c_S)), (none, .v (.int .i64 Zl.fat)), (none, .v (.int .i64 Zl.fdepth))])]⟩
theorem ZjX (ZM : (List Zq)) (Zl : Zg) : ∀ r, ZbW ZM Zl = some r → ZbW.M ZM Zl r := by
 refine ZbW.partial_correctness (fun ZM Zl r => ZbW.M ZM Zl r) ?_ ZM Zl
 intro stg_parser_atoms_l1' ZgK ZM Zl r hF
 have ZjL := fun (ZM : (List Zq)) (Zl : Zg) => ZgK ZM Zl
 clear ZgK
 unfold ZbW.M
 refine AWL.step ?_
 refine AWP.seq ?_
 refine AWP.seq ?_
 obtain ⟨r15, Zsp, hF⟩ := bind_some hF
 refine ns ?_
 refine Exists.intro [] (Exists.intro [(1000, 1000)] (Exists.intro [] ?_))
 refine st ?_
 refine cm (Zn.weak (rn []) (ZcY Zl _ Zsp) rfl (WS.mk (tp Ze) (Za rfl (cc (cc (cc Zb))) Zf))) ?_
 refine st ?_
 refine nw ?_
 refine Zw hF (fun Zhc hF => ?_) (fun Zhc hF => ?_)
 ·refine nw ?_
  refine AWP.block ?_
  obtain ⟨r17, ZnU, hF⟩ := bind_some hF
  obtain ⟨ZCm, hF⟩ := ZV hF
  refine ns ?_
  refine Exists.intro [] (Exists.intro [(1000, 1000)] (Exists.intro [] ?_))
  refine st ?_
  refine cm (Zn.weak (rn []) (Zmg Zl _ ZnU) rfl (WS.mk (tp Ze) (Za rfl (cc (cc (cc Zb))) Zf))) ?_
  refine st ?_
  refine Exists.intro _ (And.intro (ZE (f := Zq.cells) (Zkp (Zq.cells_eq r17.1) (lc (lc (lc Zr)))) (Zx (f := Zq.cells))) ?_)
  refine sa (fun l => ZaE l (fun x => Zq.cells_len x)) ZCm ?_
  refine Exists.intro _ (And.intro (WE.refl _) ?_)
  rw [← List.map_append]
  refine st ?_
  refine AWL.weak (rn [(11, 3)]) ?_ (ZjL (ZM ++ ([r17.1])) r17.2 _ hF)
  exact (WS.mk (tp (Zj (ZH rfl (WE.refl _)) Ze)) (Za rfl (cc (cc (cc Zb))) Zf))
 ·refine nw ?_
  refine AWP.seq ?_
  refine ns ?_
  obtain rfl := Zs hF
  refine ns ?_
  refine Exists.intro [(1000, 1000)] ?_
  refine st ?_
  exact Exists.intro (rn [(3, 0)]) (WS.mk (Zj (ZH rfl (WE.refl _)) Ze) (Za rfl (cc (cc (cc Zb))) Zf))

def ZbE (p : Zg) : Option ((List Zq) × Zg) :=
 ZbW ([]) p
def ZbE.M (p : Zg) (r : (List Zq) × Zg) : Prop :=
 Zn Tryz.prog 144 [.ptr 1000 0] [(1000, [(none, .sl (p.fwords.map c_S)), (none, .v (.int .i64 p.fat)), (none, .v (.int .i64 p.fdepth))])] (fun d b => d = .c (some (0, 49)) (.sl (r.1.map Zq.cells)) ∧ b = [(1000, [(none, .sl (r.2.fwords.map c_S)), (none, .v (.int .i64 r.2.fat)), (none, .v (.int .i64 r.2.fdepth))])])
theorem ZeG (p : Zg) (r : (List Zq) × Zg) (hF : ZbE p = some r) : ZbE.M p r := by
 unfold ZbE at hF
 unfold ZbE.M
 refine en Tryz.func144 ?_
 refine AWP.seq ?_
 refine ns ?_
 refine AWP.seq ?_
 refine ns ?_
 refine AWP.seq ?_
 refine AWP.block ?_
 refine AWP.loop ?_
 refine AWL.weak (rn []) ?_ (ZjX ([]) p _ hF)
 exact (WS.mk (tp (Zj Zpg Ze)) (Za rfl (cc (cc (cc Zb))) Zf))

def ZaW (Zgy : Zo) (Zl : Zg) : Option (Zo × Zg) :=
 ZP Zl ([(ByteArray.mk #[41])]) >>= fun ZwI =>
 some (Zgy, Zg.mk ZwI.fwords ZwI.fat (IntKind.i64.wrap (ZwI.fdepth - 1)))
def ZaW.M (Zgy : Zo) (Zl : Zg) (r : Zo × Zg) : Prop :=
 AWP Tryz.prog 109 (Code.sub (Zt Tryz.f127) [1, 1, 1, 1, 1]) (Code.cont Tryz.prog 109 (Zt Tryz.f127) [1, 1, 1, 1, 1] (Zbl tab Tryz.f127.results (Zbo (.agg [.v (.int .i64 r.1.fOp), .v (.string r.1.fName), .sl (r.1.fArgs.map Zq.cells), .v (.bool r.1.fRec), .sl (r.1.fBinds.map Zc.cells), .sl (r.1.fKids.map Zo.cells), .sl (r.1.fAlts.map Zi.cells)]) [(1000, [(none, .sl (r.2.fwords.map c_S)), (none, .v (.int .i64 r.2.fat)), (none, .v (.int .i64 r.2.fdepth))])]))) ⟨[(0, .ptr 1000 0), (2, .ptr 2 0), (3, .ptr 3 0)], [(2, [(none, .v (.int .i64 0)), (none, .v (.string (ByteArray.mk #[]))), (none, .nils), (none, .v (.bool false)), (none, .nils), (none, .nils), (none, .nils)]), (3, [(none, .v (.int .i64 Zgy.fOp)), (none, .v (.string Zgy.fName)), (none, .sl (Zgy.fArgs.map Zq.cells)), (none, .v (.bool Zgy.fRec)), ((some (4154, 57)), .sl (Zgy.fBinds.map Zc.cells)), (none, .sl (Zgy.fKids.map Zo.cells)), ((some (4156, 52)), .sl (Zgy.fAlts.map Zi.cells))]), (1000, [(none, .sl (Zl.fwords.map c_S)), (none, .v (.int .i64 Zl.fat)), (none, .v (.int .i64 Zl.fdepth))])]⟩
theorem ZcR (Zgy : Zo) (Zl : Zg) (r : Zo × Zg) (hF : ZaW Zgy Zl = some r) : ZaW.M Zgy Zl r := by
 unfold ZaW at hF
 unfold ZaW.M
 refine AWP.seq ?_
 obtain ⟨ZwI, Zy3, hF⟩ := bind_some hF
 refine ns ?_
 refine Exists.intro _ (And.intro (ZE (f := c_S) (lc Zr) (Zx (f := c_S))) ?_)
 refine st ?_
 refine Exists.intro [99] (Exists.intro [(1000, 1000)] (Exists.intro [] ?_))
 refine st ?_
 refine cm (Zn.weak (rn []) (ZaC Zl ([(ByteArray.mk #[41])]) _ Zy3) rfl (WS.mk (tp (tc Ze)) (Za rfl (cc (cc (cc Zb))) Zf))) ?_
 refine st ?_
 refine AWP.seq ?_
 refine ns ?_
 refine AWP.seq ?_
 refine ns ?_
 obtain rfl := Zs hF
 refine ns ?_
 refine Exists.intro [(1000, 1000)] ?_
 refine st ?_
 exact wx (WS.mk (Zj (ZaM (lc (lc (lc (lc (lc (lc (lc Zr)))))))) Ze) (Za rfl (cc (cc (cc Zb))) Zf))

def ZbU (ZM : (List ByteArray)) (Zl : Zg) : Option ((List ByteArray) × Zg) :=
 Zar Zl >>= fun r34 =>
 if (!(r34.toList == (ByteArray.mk #[41]).toList)) = true then
 Zy Zl >>= fun r36 =>
 ZaY ((ZM.length + ([r36.1]).length) * 16 ≤ 140737488355328) >>= fun _ =>
 ZbU (ZM ++ ([r36.1])) r36.2
 else
 ZP Zl ([(ByteArray.mk #[41])]) >>= fun r38 =>
 some (ZM, r38)
 partial_fixpoint
def ZbU.M (ZM : (List ByteArray)) (Zl : Zg) (r : (List ByteArray) × Zg) : Prop :=
 AWL Tryz.prog 19 (Code.sub (Zt Tryz.f126) [1, 1, 1, 0, 0, 0]) (Code.cont Tryz.prog 19 (Zt Tryz.f126) [1, 1, 1, 0, 0] (Zbl tab Tryz.f126.results (Zbo (.c (some (0, 9)) (.sl (r.1.map c_S))) [(1000, [(none, .sl (r.2.fwords.map c_S)), (none, .v (.int .i64 r.2.fat)), (none, .v (.int .i64 r.2.fdepth))])]))) ⟨[(0, .ptr 1000 0), (3, .c (some (3, 9)) (.sl (ZM.map c_S)))], [(1000, [(none, .sl (Zl.fwords.map c_S)), (none, .v (.int .i64 Zl.fat)), (none, .v (.int .i64 Zl.fdepth))])]⟩
theorem Zj5 (ZM : (List ByteArray)) (Zl : Zg) : ∀ r, ZbU ZM Zl = some r → ZbU.M ZM Zl r := by
 refine ZbU.partial_correctness (fun ZM Zl r => ZbU.M ZM Zl r) ?_ ZM Zl
 intro stg_parser_names_l1' ZgF ZM Zl r hF
 have ZjY := fun (ZM : (List ByteArray)) (Zl : Zg) => ZgF ZM Zl
 clear ZgF
 unfold ZbU.M
 refine AWL.step ?_
 refine AWP.seq ?_
 refine AWP.seq ?_
 obtain ⟨r34, ZCl, hF⟩ := bind_some hF
 refine ns ?_
 refine Exists.intro [] (Exists.intro [(1000, 1000)] (Exists.intro [] ?_))
 refine st ?_
 refine cm (Zn.weak (rn []) (ZcY Zl _ ZCl) rfl (WS.mk (tp Ze) (Za rfl (cc (cc (cc Zb))) Zf))) ?_
 refine st ?_
 refine nw ?_
 refine Zw hF (fun Znb hF => ?_) (fun Znb hF => ?_)
 ·refine nw ?_
  refine AWP.block ?_
  obtain ⟨r36, ZAX, hF⟩ := bind_some hF
  obtain ⟨Zyx, hF⟩ := ZV hF
  refine ns ?_
  refine Exists.intro [] (Exists.intro [(1000, 1000)] (Exists.intro [] ?_))
  refine st ?_
  refine cm (Zn.weak (rn []) (ZaK Zl _ ZAX) rfl (WS.mk (tp Ze) (Za rfl (cc (cc (cc Zb))) Zf))) ?_
  refine st ?_
  refine Exists.intro _ (And.intro (ZE (f := c_S) (lc Zr) (Zx (f := c_S))) ?_)
  refine sa (fun l => ZaE l (fun x => Zbk x)) Zyx ?_
  refine Exists.intro _ (And.intro (WE.refl _) ?_)
  rw [← List.map_append]
  refine st ?_
  refine AWL.weak (rn [(14, 3)]) ?_ (ZjY (ZM ++ ([r36.1])) r36.2 _ hF)
  exact (WS.mk (tp (Zj (ZH rfl (WE.refl _)) Ze)) (Za rfl (cc (cc (cc Zb))) Zf))
 ·refine nw ?_
  refine AWP.seq ?_
  obtain ⟨r38, ZyU, hF⟩ := bind_some hF
  refine ns ?_
  refine Exists.intro _ (And.intro (ZE (f := c_S) (lc Zr) (Zx (f := c_S))) ?_)
  refine st ?_
  refine Exists.intro [16] (Exists.intro [(1000, 1000)] (Exists.intro [] ?_))
  refine st ?_
  refine cm (Zn.weak (rn []) (ZaC Zl ([(ByteArray.mk #[41])]) _ ZyU) rfl (WS.mk (tp (tc Ze)) (Za rfl (cc (cc (cc Zb))) Zf))) ?_
  refine st ?_
  refine AWP.seq ?_
  refine ns ?_
  obtain rfl := Zs hF
  refine ns ?_
  refine Exists.intro [(1000, 1000)] ?_
  refine st ?_
  exact Exists.intro (rn [(3, 0)]) (WS.mk (Zj (ZH rfl (WE.refl _)) Ze) (Za rfl (cc (cc (cc Zb))) Zf))

def Zb4 (p : Zg) : Option ((List ByteArray) × Zg) :=
 ZP p ([(ByteArray.mk #[40])]) >>= fun r1 =>
 ZbU ([]) r1
def Zb4.M (p : Zg) (r : (List ByteArray) × Zg) : Prop :=
 Zn Tryz.prog 126 [.ptr 1000 0] [(1000, [(none, .sl (p.fwords.map c_S)), (none, .v (.int .i64 p.fat)), (none, .v (.int .i64 p.fdepth))])] (fun d b => d = .c (some (0, 9)) (.sl (r.1.map c_S)) ∧ b = [(1000, [(none, .sl (r.2.fwords.map c_S)), (none, .v (.int .i64 r.2.fat)), (none, .v (.int .i64 r.2.fdepth))])])
theorem Zf9 (p : Zg) (r : (List ByteArray) × Zg) (hF : Zb4 p = some r) : Zb4.M p r := by
 unfold Zb4 at hF
 unfold Zb4.M
 refine en Tryz.func126 ?_
 refine AWP.seq ?_
 refine ns ?_
 refine AWP.seq ?_
 obtain ⟨r1, hr1, hF⟩ := bind_some hF
 refine ns ?_
 refine Exists.intro _ (And.intro (ZE (f := c_S) (lc Zr) (Zx (f := c_S))) ?_)
 refine st ?_
 refine Exists.intro [5] (Exists.intro [(1000, 1000)] (Exists.intro [] ?_))
 refine st ?_
 refine cm (Zn.weak (rn []) (ZaC p ([(ByteArray.mk #[40])]) _ hr1) rfl (WS.mk (tp (tc Ze)) (Za rfl (cc (cc (cc Zb))) Zf))) ?_
 refine st ?_
 refine AWP.seq ?_
 refine ns ?_
 refine AWP.seq ?_
 refine AWP.block ?_
 refine AWP.loop ?_
 refine AWL.weak (rn []) ?_ (Zj5 ([]) r1 _ hF)
 exact (WS.mk (tp (Zj Zpg Ze)) (Za rfl (cc (cc (cc Zb))) Zf))

mutual
def ZbY (p : Zg) : Option (Zc × Zg) :=
 ZP p ([(ByteArray.mk #[40])]) >>= fun r1 =>
 Zy r1 >>= fun r14 =>
 if (r14.1.toList == (ByteArray.mk #[102, 117, 110]).toList) = true then
 Zb9 1 r14.2
 else
 if (r14.1.toList == (ByteArray.mk #[116, 104, 117, 110, 107]).toList) = true then
 Zb9 2 r14.2
 else
 if (r14.1.toList == (ByteArray.mk #[99, 111, 110]).toList) = true then
 Zb9 3 r14.2
 else
 none
 partial_fixpoint
def Zb9 (Zg3 : Nat) (Zl : Zg) : Option (Zc × Zg) :=
 Zy Zl >>= fun r6 =>
 Zb4 r6.2 >>= fun r7 =>
 if (((Zg3 : Nat) : Int) == 1) = true then
 Zb4 r7.2 >>= fun r13 =>
 Zb8 r6 Zg3 r7 r13.1 r13.2
 else
 Zb8 r6 Zg3 r7 ([]) r7.2
 partial_fixpoint
def Zb8 (r6 : (ByteArray × Zg)) (Zg3 : Nat) (r7 : ((List ByteArray) × Zg)) (Zo3 : (List ByteArray)) (Zl : Zg) : Option (Zc × Zg) :=
 Zcj Zl >>= fun r10 =>
 ZP r10.2 ([(ByteArray.mk #[41])]) >>= fun r11 =>
 some (Zc.mk r6.1 ((Zg3 : Nat) : Int) r7.1 Zo3 r10.1, r11)
 partial_fixpoint
def Zcj (p : Zg) : Option (Zo × Zg) :=
 if (decide ((IntKind.i64.wrap (p.fdepth + 1)) > 4000)) = true then
 none
 else
 ZP (Zg.mk p.fwords p.fat (IntKind.i64.wrap (p.fdepth + 1))) ([(ByteArray.mk #[40])]) >>= fun r3 =>
 Zy r3 >>= fun Zc1 =>
 if (Zc1.1.toList == (ByteArray.mk #[97, 116, 111, 109]).toList) = true then
 ZbE Zc1.2 >>= fun ZrR =>
 ZaW (Zo.mk 1 (ByteArray.mk #[]) ZrR.1 false ([] : List Zc) ([] : List Zo) ([] : List Zi)) ZrR.2
 else
 if (Zc1.1.toList == (ByteArray.mk #[97, 112, 112]).toList) = true then
 Zy Zc1.2 >>= fun Zv9 =>
 ZbE Zv9.2 >>= fun Zwd =>
 ZaW (Zo.mk 2 Zv9.1 Zwd.1 false ([] : List Zc) ([] : List Zo) ([] : List Zi)) Zwd.2
 else
 if (Zc1.1.toList == (ByteArray.mk #[99, 111, 110]).toList) = true then
 Zy Zc1.2 >>= fun Zvg =>
 ZbE Zvg.2 >>= fun ZvF =>
 ZaW (Zo.mk 3 Zvg.1 ZvF.1 false ([] : List Zc) ([] : List Zo) ([] : List Zi)) ZvF.2
 else
 if (Zc1.1.toList == (ByteArray.mk #[112, 114, 105, 109]).toList) = true then
 Zy Zc1.2 >>= fun ZuS =>
 ZbE ZuS.2 >>= fun ZvI =>
 ZaW (Zo.mk 4 ZuS.1 ZvI.1 false ([] : List Zc) ([] : List Zo) ([] : List Zi)) ZvI.2
 else
 if (Zc1.1.toList == (ByteArray.mk #[108, 101, 116]).toList) = true then
 Zc3 Zc1 (Zc1.1.toList == (ByteArray.mk #[108, 101, 116]).toList)
 else
 Zc3 Zc1 (Zc1.1.toList == (ByteArray.mk #[108, 101, 116, 114, 101, 99]).toList)
 partial_fixpoint
def Zc3 (Zc1 : (ByteArray × Zg)) (ZsR : Bool) : Option (Zo × Zg) :=
 if ZsR = true then
 Zc4 Zc1 ([]) Zc1.2
 else
 if (Zc1.1.toList == (ByteArray.mk #[99, 97, 115, 101]).toList) = true then
 Zcj Zc1.2 >>= fun Zlf =>
 Zy Zlf.2 >>= fun ZlQ =>
 Zc2 ZlQ Zlf ([]) ZlQ.2
 else
 none
 partial_fixpoint
def Zc2 (ZlQ : (ByteArray × Zg)) (Zlf : (Zo × Zg)) (Zk1 : (List Zi)) (Zl : Zg) : Option (Zo × Zg) :=
 Zar Zl >>= fun Zzw =>
 if (Zzw.toList == (ByteArray.mk #[40]).toList) = true then
 ZeJ Zl >>= fun ZsN =>
 ZaY ((Zk1.length + ([ZsN.1]).length) * 184 ≤ 140737488355328) >>= fun _ =>
 Zc2 ZlQ Zlf (Zk1 ++ ([ZsN.1])) ZsN.2
 else
 ZaW (Zo.mk 6 ZlQ.1 ([] : List Zq) false ([] : List Zc) ([Zlf.1]) Zk1) Zl
 partial_fixpoint
def ZeJ (p : Zg) : Option (Zi × Zg) :=
 ZP p ([(ByteArray.mk #[40])]) >>= fun r1 =>
 Zy r1 >>= fun r13 =>
 if (r13.1.toList == (ByteArray.mk #[97, 108, 116]).toList) = true then
 Zy r13.2 >>= fun r15 =>
 Zb4 r15.2 >>= fun r16 =>
 Zcp 1 r15.1 0 r16.1 r16.2
 else
 if (r13.1.toList == (ByteArray.mk #[105, 110, 116]).toList) = true then
 ZaD r13.2 >>= fun r18 =>
 Zcp 2 (ByteArray.mk #[]) r18.1 ([]) r18.2
 else
 if (r13.1.toList == (ByteArray.mk #[99, 104, 97, 114]).toList) = true then
 ZaD r13.2 >>= fun r20 =>
 Zcp 3 (ByteArray.mk #[]) r20.1 ([]) r20.2
 else
 if (r13.1.toList == (ByteArray.mk #[100, 101, 102, 97, 117, 108, 116]).toList) = true then
 Zcp 4 (ByteArray.mk #[]) 0 ([]) r13.2
 else
 none
 partial_fixpoint
def Zcp (Zpq : Nat) (Zpd : ByteArray) (ZoQ : Int) (Zot : (List ByteArray)) (Zl : Zg) : Option (Zi × Zg) :=
 Zcj Zl >>= fun r11 =>
 ZP r11.2 ([(ByteArray.mk #[41])]) >>= fun r12 =>
 some (Zi.mk ((Zpq : Nat) : Int) Zpd ZoQ Zot r11.1, r12)
 partial_fixpoint
def Zc4 (Zc1 : (ByteArray × Zg)) (Zk0 : (List Zc)) (Zl : Zg) : Option (Zo × Zg) :=
 Zar Zl >>= fun ZAl =>
 if (ZAl.toList == (ByteArray.mk #[40]).toList) = true then
 ZbY Zl >>= fun Zsn =>
 ZaY ((Zk0.length + ([Zsn.1]).length) * 200 ≤ 140737488355328) >>= fun _ =>
 Zc4 Zc1 (Zk0 ++ ([Zsn.1])) Zsn.2
 else
 ZP Zl ([(ByteArray.mk #[105, 110])]) >>= fun ZxW =>
 Zcj ZxW >>= fun Zuq =>
 ZaW (Zo.mk 5 (ByteArray.mk #[]) ([] : List Zq) (Zc1.1.toList == (ByteArray.mk #[108, 101, 116, 114, 101, 99]).toList) Zk0 ([Zuq.1]) ([] : List Zi)) Zuq.2
 partial_fixpoint
end
def ZbY.M (p : Zg) (r : Zc × Zg) : Prop :=
 Zn Tryz.prog 95 [.ptr 1000 0] [(1000, [(none, .sl (p.fwords.map c_S)), (none, .v (.int .i64 p.fat)), (none, .v (.int .i64 p.fdepth))])] (fun d b => d = .agg [.v (.string r.1.fName), .v (.int .i64 r.1.fOp), .sl (r.1.fFree.map c_S), .sl (r.1.fParams.map c_S), .v (.int .i64 r.1.fBody.fOp), .v (.string r.1.fBody.fName), .sl (r.1.fBody.fArgs.map Zq.cells), .v (.bool r.1.fBody.fRec), .sl (r.1.fBody.fBinds.map Zc.cells), .sl (r.1.fBody.fKids.map Zo.cells), .sl (r.1.fBody.fAlts.map Zi.cells)] ∧ b = [(1000, [(none, .sl (r.2.fwords.map c_S)), (none, .v (.int .i64 r.2.fat)), (none, .v (.int .i64 r.2.fdepth))])])
def Zb9.M (Zg3 : Nat) (Zl : Zg) (r : Zc × Zg) : Prop :=
 AWP Tryz.prog 39 (Code.sub (Zt Tryz.f95) [1, 1, 1, 1]) (Code.cont Tryz.prog 39 (Zt Tryz.f95) [1, 1, 1, 1] (Zbl tab Tryz.f95.results (Zbo (.agg [.v (.string r.1.fName), .v (.int .i64 r.1.fOp), .sl (r.1.fFree.map c_S), .sl (r.1.fParams.map c_S), .v (.int .i64 r.1.fBody.fOp), .v (.string r.1.fBody.fName), .sl (r.1.fBody.fArgs.map Zq.cells), .v (.bool r.1.fBody.fRec), .sl (r.1.fBody.fBinds.map Zc.cells), .sl (r.1.fBody.fKids.map Zo.cells), .sl (r.1.fBody.fAlts.map Zi.cells)]) [(1000, [(none, .sl (r.2.fwords.map c_S)), (none, .v (.int .i64 r.2.fat)), (none, .v (.int .i64 r.2.fdepth))])]))) ⟨[(0, .ptr 1000 0), (2, .ptr 2 0), (3, .ptr 3 0)], [(2, [(none, .v (.string (ByteArray.mk #[]))), (none, .v (.int .i64 0)), (none, .nils), (none, .nils), (none, .v (.int .i64 0)), (none, .v (.string (ByteArray.mk #[]))), (none, .nils), (none, .v (.bool false)), (none, .nils), (none, .nils), (none, .nils)]), (3, [(none, .v (.string (ByteArray.mk #[]))), (none, .v (.int .i64 ((Zg3 : Nat) : Int))), (none, .nils), (none, .nils), (none, .v (.int .i64 0)), (none, .v (.string (ByteArray.mk #[]))), (none, .nils), (none, .v (.bool false)), (none, .nils), (none, .nils), (none, .nils)]), (1000, [(none, .sl (Zl.fwords.map c_S)), (none, .v (.int .i64 Zl.fat)), (none, .v (.int .i64 Zl.fdepth))])]⟩
def Zb8.M (r6 : (ByteArray × Zg)) (Zg3 : Nat) (r7 : ((List ByteArray) × Zg)) (Zo3 : (List ByteArray)) (Zl : Zg) (r : Zc × Zg) : Prop :=
 AWP Tryz.prog 39 (Code.sub (Zt Tryz.f95) [1, 1, 1, 1, 1, 1, 1]) (Code.cont Tryz.prog 39 (Zt Tryz.f95) [1, 1, 1, 1, 1, 1, 1] (Zbl tab Tryz.f95.results (Zbo (.agg [.v (.string r.1.fName), .v (.int .i64 r.1.fOp), .sl (r.1.fFree.map c_S), .sl (r.1.fParams.map c_S), .v (.int .i64 r.1.fBody.fOp), .v (.string r.1.fBody.fName), .sl (r.1.fBody.fArgs.map Zq.cells), .v (.bool r.1.fBody.fRec), .sl (r.1.fBody.fBinds.map Zc.cells), .sl (r.1.fBody.fKids.map Zo.cells), .sl (r.1.fBody.fAlts.map Zi.cells)]) [(1000, [(none, .sl (r.2.fwords.map c_S)), (none, .v (.int .i64 r.2.fat)), (none, .v (.int .i64 r.2.fdepth))])]))) ⟨[(0, .ptr 1000 0), (2, .ptr 2 0), (3, .ptr 3 0)], [(2, [(none, .v (.string (ByteArray.mk #[]))), (none, .v (.int .i64 0)), (none, .nils), (none, .nils), (none, .v (.int .i64 0)), (none, .v (.string (ByteArray.mk #[]))), (none, .nils), (none, .v (.bool false)), (none, .nils), (none, .nils), (none, .nils)]), (3, [(none, .v (.string r6.1)), (none, .v (.int .i64 ((Zg3 : Nat) : Int))), (none, .sl (r7.1.map c_S)), (none, .sl (Zo3.map c_S)), (none, .v (.int .i64 0)), (none, .v (.string (ByteArray.mk #[]))), (none, .nils), (none, .v (.bool false)), (none, .nils), (none, .nils), (none, .nils)]), (1000, [(none, .sl (Zl.fwords.map c_S)), (none, .v (.int .i64 Zl.fat)), (none, .v (.int .i64 Zl.fdepth))])]⟩
def Zcj.M (p : Zg) (r : Zo × Zg) : Prop :=
 Zn Tryz.prog 127 [.ptr 1000 0] [(1000, [(none, .sl (p.fwords.map c_S)), (none, .v (.int .i64 p.fat)), (none, .v (.int .i64 p.fdepth))])] (fun d b => d = .agg [.v (.int .i64 r.1.fOp), .v (.string r.1.fName), .sl (r.1.fArgs.map Zq.cells), .v (.bool r.1.fRec), .sl (r.1.fBinds.map Zc.cells), .sl (r.1.fKids.map Zo.cells), .sl (r.1.fAlts.map Zi.cells)] ∧ b = [(1000, [(none, .sl (r.2.fwords.map c_S)), (none, .v (.int .i64 r.2.fat)), (none, .v (.int .i64 r.2.fdepth))])])
def Zc3.M (Zc1 : (ByteArray × Zg)) (ZsR : Bool) (r : Zo × Zg) : Prop :=
 AWP Tryz.prog 109 (Code.sub (Zt Tryz.f127) [1, 1, 1, 1, 0, 1, 1, 0, 1, 1, 1, 1, 1, 1, 1, 1, 1]) (Code.cont Tryz.prog 109 (Zt Tryz.f127) [1, 1, 1, 1, 0, 1, 1, 0, 1, 1, 1, 1, 1, 1, 1, 1, 1] (Zbl tab Tryz.f127.results (Zbo (.agg [.v (.int .i64 r.1.fOp), .v (.string r.1.fName), .sl (r.1.fArgs.map Zq.cells), .v (.bool r.1.fRec), .sl (r.1.fBinds.map Zc.cells), .sl (r.1.fKids.map Zo.cells), .sl (r.1.fAlts.map Zi.cells)]) [(1000, [(none, .sl (r.2.fwords.map c_S)), (none, .v (.int .i64 r.2.fat)), (none, .v (.int .i64 r.2.fdepth))])]))) ⟨[(0, .ptr 1000 0), (2, .ptr 2 0), (3, .ptr 3 0), (4, .c none (.v (.string Zc1.1))), (24, .c none (.v (.string Zc1.1))), (56, .c none (.v (.bool ZsR)))], [(2, [(none, .v (.int .i64 0)), (none, .v (.string (ByteArray.mk #[]))), (none, .nils), (none, .v (.bool false)), (none, .nils), (none, .nils), (none, .nils)]), (3, [(none, .v (.int .i64 0)), (none, .v (.string (ByteArray.mk #[]))), (none, .nils), (none, .v (.bool false)), (none, .nils), (none, .nils), (none, .nils)]), (1000, [(none, .sl (Zc1.2.fwords.map c_S)), (none, .v (.int .i64 Zc1.2.fat)), (none, .v (.int .i64 Zc1.2.fdepth))])]⟩
def Zc2.M (ZlQ : (ByteArray × Zg)) (Zlf : (Zo × Zg)) (Zk1 : (List Zi)) (Zl : Zg) (r : Zo × Zg) : Prop :=
 AWL Tryz.prog 109 (Code.sub (Zt Tryz.f127) [1, 1, 1, 1, 0, 1, 1, 0, 1, 1, 1, 1, 1, 1, 1, 1, 1, 1, 1, 0, 1, 1, 0, 0]) (Code.cont Tryz.prog 109 (Zt Tryz.f127) [1, 1, 1, 1, 0, 1, 1, 0, 1, 1, 1, 1, 1, 1, 1, 1, 1, 1, 1, 0, 1, 1, 0] (Zbl tab Tryz.f127.results (Zbo (.agg [.v (.int .i64 r.1.fOp), .v (.string r.1.fName), .sl (r.1.fArgs.map Zq.cells), .v (.bool r.1.fRec), .sl (r.1.fBinds.map Zc.cells), .sl (r.1.fKids.map Zo.cells), .sl (r.1.fAlts.map Zi.cells)]) [(1000, [(none, .sl (r.2.fwords.map c_S)), (none, .v (.int .i64 r.2.fat)), (none, .v (.int .i64 r.2.fdepth))])]))) ⟨[(0, .ptr 1000 0), (2, .ptr 2 0), (3, .ptr 3 0)], [(2, [(none, .v (.int .i64 0)), (none, .v (.string (ByteArray.mk #[]))), (none, .nils), (none, .v (.bool false)), (none, .nils), (none, .nils), (none, .nils)]), (3, [(none, .v (.int .i64 6)), (none, .v (.string ZlQ.1)), (none, .nils), (none, .v (.bool false)), (none, .nils), (none, .sl (([Zlf.1]).map Zo.cells)), ((some (4156, 52)), .sl (Zk1.map Zi.cells))]), (1000, [(none, .sl (Zl.fwords.map c_S)), (none, .v (.int .i64 Zl.fat)), (none, .v (.int .i64 Zl.fdepth))])]⟩
def ZeJ.M (p : Zg) (r : Zi × Zg) : Prop :=
 Zn Tryz.prog 145 [.ptr 1000 0] [(1000, [(none, .sl (p.fwords.map c_S)), (none, .v (.int .i64 p.fat)), (none, .v (.int .i64 p.fdepth))])] (fun d b => d = .agg [.v (.int .i64 r.1.fOp), .v (.string r.1.fName), .v (.int .i64 r.1.fN), .sl (r.1.fVars.map c_S), .v (.int .i64 r.1.fBody.fOp), .v (.string r.1.fBody.fName), .sl (r.1.fBody.fArgs.map Zq.cells), .v (.bool r.1.fBody.fRec), .sl (r.1.fBody.fBinds.map Zc.cells), .sl (r.1.fBody.fKids.map Zo.cells), .sl (r.1.fBody.fAlts.map Zi.cells)] ∧ b = [(1000, [(none, .sl (r.2.fwords.map c_S)), (none, .v (.int .i64 r.2.fat)), (none, .v (.int .i64 r.2.fdepth))])])
def Zcp.M (Zpq : Nat) (Zpd : ByteArray) (ZoQ : Int) (Zot : (List ByteArray)) (Zl : Zg) (r : Zi × Zg) : Prop :=
 AWP Tryz.prog 39 (Code.sub (Zt Tryz.f145) [1, 1, 1, 1]) (Code.cont Tryz.prog 39 (Zt Tryz.f145) [1, 1, 1, 1] (Zbl tab Tryz.f145.results (Zbo (.agg [.v (.int .i64 r.1.fOp), .v (.string r.1.fName), .v (.int .i64 r.1.fN), .sl (r.1.fVars.map c_S), .v (.int .i64 r.1.fBody.fOp), .v (.string r.1.fBody.fName), .sl (r.1.fBody.fArgs.map Zq.cells), .v (.bool r.1.fBody.fRec), .sl (r.1.fBody.fBinds.map Zc.cells), .sl (r.1.fBody.fKids.map Zo.cells), .sl (r.1.fBody.fAlts.map Zi.cells)]) [(1000, [(none, .sl (r.2.fwords.map c_S)), (none, .v (.int .i64 r.2.fat)), (none, .v (.int .i64 r.2.fdepth))])]))) ⟨[(0, .ptr 1000 0), (2, .ptr 2 0), (3, .ptr 3 0)], [(2, [(none, .v (.int .i64 0)), (none, .v (.string (ByteArray.mk #[]))), (none, .v (.int .i64 0)), (none, .nils), (none, .v (.int .i64 0)), (none, .v (.string (ByteArray.mk #[]))), (none, .nils), (none, .v (.bool false)), (none, .nils), (none, .nils), (none, .nils)]), (3, [(none, .v (.int .i64 ((Zpq : Nat) : Int))), (none, .v (.string Zpd)), (none, .v (.int .i64 ZoQ)), (none, .sl (Zot.map c_S)), (none, .v (.int .i64 0)), (none, .v (.string (ByteArray.mk #[]))), (none, .nils), (none, .v (.bool false)), (none, .nils), (none, .nils), (none, .nils)]), (1000, [(none, .sl (Zl.fwords.map c_S)), (none, .v (.int .i64 Zl.fat)), (none, .v (.int .i64 Zl.fdepth))])]⟩
def Zc4.M (Zc1 : (ByteArray × Zg)) (Zk0 : (List Zc)) (Zl : Zg) (r : Zo × Zg) : Prop :=
 AWL Tryz.prog 109 (Code.sub (Zt Tryz.f127) [1, 1, 1, 1, 0, 1, 1, 0, 1, 1, 1, 1, 1, 1, 1, 1, 1, 0, 1, 0, 0, 0]) (Code.cont Tryz.prog 109 (Zt Tryz.f127) [1, 1, 1, 1, 0, 1, 1, 0, 1, 1, 1, 1, 1, 1, 1, 1, 1, 0, 1, 0, 0] (Zbl tab Tryz.f127.results (Zbo (.agg [.v (.int .i64 r.1.fOp), .v (.string r.1.fName), .sl (r.1.fArgs.map Zq.cells), .v (.bool r.1.fRec), .sl (r.1.fBinds.map Zc.cells), .sl (r.1.fKids.map Zo.cells), .sl (r.1.fAlts.map Zi.cells)]) [(1000, [(none, .sl (r.2.fwords.map c_S)), (none, .v (.int .i64 r.2.fat)), (none, .v (.int .i64 r.2.fdepth))])]))) ⟨[(0, .ptr 1000 0), (2, .ptr 2 0), (3, .ptr 3 0)], [(2, [(none, .v (.int .i64 0)), (none, .v (.string (ByteArray.mk #[]))), (none, .nils), (none, .v (.bool false)), (none, .nils), (none, .nils), (none, .nils)]), (3, [(none, .v (.int .i64 5)), (none, .v (.string (ByteArray.mk #[]))), (none, .nils), (none, .v (.bool (Zc1.1.toList == (ByteArray.mk #[108, 101, 116, 114, 101, 99]).toList))), ((some (4154, 57)), .sl (Zk0.map Zc.cells)), (none, .nils), (none, .nils)]), (1000, [(none, .sl (Zl.fwords.map c_S)), (none, .v (.int .i64 Zl.fat)), (none, .v (.int .i64 Zl.fdepth))])]⟩
theorem ZlH : (∀ (p : Zg), ∀ r, ZbY p = some r → ZbY.M p r) ∧ (∀ (Zg3 : Nat) (Zl : Zg), ∀ r, Zb9 Zg3 Zl = some r → Zb9.M Zg3 Zl r) ∧ (∀ (r6 : (ByteArray × Zg)) (Zg3 : Nat) (r7 : ((List ByteArray) × Zg)) (Zo3 : (List ByteArray)) (Zl : Zg), ∀ r, Zb8 r6 Zg3 r7 Zo3 Zl = some r → Zb8.M r6 Zg3 r7 Zo3 Zl r) ∧ (∀ (p : Zg), ∀ r, Zcj p = some r → Zcj.M p r) ∧ (∀ (Zc1 : (ByteArray × Zg)) (ZsR : Bool), ∀ r, Zc3 Zc1 ZsR = some r → Zc3.M Zc1 ZsR r) ∧ (∀ (ZlQ : (ByteArray × Zg)) (Zlf : (Zo × Zg)) (Zk1 : (List Zi)) (Zl : Zg), ∀ r, Zc2 ZlQ Zlf Zk1 Zl = some r → Zc2.M ZlQ Zlf Zk1 Zl r) ∧ (∀ (p : Zg), ∀ r, ZeJ p = some r → ZeJ.M p r) ∧ (∀ (Zpq : Nat) (Zpd : ByteArray) (ZoQ : Int) (Zot : (List ByteArray)) (Zl : Zg), ∀ r, Zcp Zpq Zpd ZoQ Zot Zl = some r → Zcp.M Zpq Zpd ZoQ Zot Zl r) ∧ (∀ (Zc1 : (ByteArray × Zg)) (Zk0 : (List Zc)) (Zl : Zg), ∀ r, Zc4 Zc1 Zk0 Zl = some r → Zc4.M Zc1 Zk0 Zl r) := by
 refine ZbY.mutual_partial_correctness ZbY.M Zb9.M Zb8.M Zcj.M Zc3.M Zc2.M ZeJ.M Zcp.M Zc4.M ?_ ?_ ?_ ?_ ?_ ?_ ?_ ?_ ?_
 ·intro stg_parser_bind_k1' Ze7 p r hF
  unfold ZbY.M
  refine en Tryz.func95 ?_
  refine AWP.seq ?_
  refine ns ?_
  refine AWP.seq ?_
  obtain ⟨r1, hr1, hF⟩ := bind_some hF
  refine ns ?_
  refine Exists.intro _ (And.intro (ZE (f := c_S) (lc Zr) (Zx (f := c_S))) ?_)
  refine st ?_
  refine Exists.intro [5] (Exists.intro [(1000, 1000)] (Exists.intro [] ?_))
  refine st ?_
  refine cm (Zn.weak (rn []) (ZaC p ([(ByteArray.mk #[40])]) _ hr1) rfl (WS.mk (tp (tc Ze)) (Za rfl (cc (cc (cc Zb))) Zf))) ?_
  refine st ?_
  refine AWP.seq ?_
  refine ns ?_
  refine AWP.seq ?_
  refine AWP.seq ?_
  obtain ⟨r14, Zm8, hF⟩ := bind_some hF
  refine ns ?_
  refine Exists.intro [] (Exists.intro [(1000, 1000)] (Exists.intro [] ?_))
  refine st ?_
  refine cm (Zn.weak (rn []) (ZaK r1 _ Zm8) rfl (WS.mk (tp Ze) (Za rfl (cc (cc (cc Zb))) Zf))) ?_
  refine st ?_
  refine AWP.block ?_
  refine AWP.seq ?_
  refine ns ?_
  refine nw ?_
  refine Zw hF (fun Zhw hF => ?_) (fun Zhw hF => ?_)
  ·refine ns ?_
   refine AWP.weak (rn []) ?_ (Ze7 1 r14.2 _ hF)
   exact (WS.mk (tp (tp (tp Ze))) (Za rfl (cc (cc (cc (cc (cc (cc (cc (cc (cc (cc (cc Zb))))))))))) (Za rfl (cc (cc (cc (cc (cc (cc (cc (cc (cc (cc (cc Zb))))))))))) (Za rfl (cc (cc (cc Zb))) Zf))))
  ·refine AWP.seq ?_
   refine ns ?_
   refine nw ?_
   refine Zw hF (fun Zhc hF => ?_) (fun Zhc hF => ?_)
   ·refine ns ?_
    refine AWP.weak (rn []) ?_ (Ze7 2 r14.2 _ hF)
    exact (WS.mk (tp (tp (tp Ze))) (Za rfl (cc (cc (cc (cc (cc (cc (cc (cc (cc (cc (cc Zb))))))))))) (Za rfl (cc (cc (cc (cc (cc (cc (cc (cc (cc (cc (cc Zb))))))))))) (Za rfl (cc (cc (cc Zb))) Zf))))
   ·refine AWP.seq ?_
    refine ns ?_
    refine nw ?_
    refine Zw hF (fun ZsV hF => ?_) (fun ZsV hF => ?_)
    ·refine ns ?_
     refine AWP.weak (rn []) ?_ (Ze7 3 r14.2 _ hF)
     exact (WS.mk (tp (tp (tp Ze))) (Za rfl (cc (cc (cc (cc (cc (cc (cc (cc (cc (cc (cc Zb))))))))))) (Za rfl (cc (cc (cc (cc (cc (cc (cc (cc (cc (cc (cc Zb))))))))))) (Za rfl (cc (cc (cc Zb))) Zf))))
    ·cases hF
 ·intro stg_parser_bind_k2' Zhi Zg3 Zl r hF
  unfold Zb9.M
  refine AWP.seq ?_
  obtain ⟨r6, hr6, hF⟩ := bind_some hF
  refine ns ?_
  refine Exists.intro [] (Exists.intro [(1000, 1000)] (Exists.intro [] ?_))
  refine st ?_
  refine cm (Zn.weak (rn []) (ZaK Zl _ hr6) rfl (WS.mk (tp Ze) (Za rfl (cc (cc (cc Zb))) Zf))) ?_
  refine st ?_
  refine AWP.seq ?_
  obtain ⟨r7, hr7, hF⟩ := bind_some hF
  refine ns ?_
  refine Exists.intro [] (Exists.intro [(1000, 1000)] (Exists.intro [] ?_))
  refine st ?_
  refine cm (Zn.weak (rn []) (Zf9 r6.2 _ hr7) rfl (WS.mk (tp Ze) (Za rfl (cc (cc (cc Zb))) Zf))) ?_
  refine st ?_
  refine AWP.seq ?_
  refine AWP.seq ?_
  refine ns ?_
  refine nw ?_
  refine Zw hF (fun Zck hF => ?_) (fun Zck hF => ?_)
  ·obtain ⟨r13, ZuT, hF⟩ := bind_some hF
   refine ns ?_
   refine Exists.intro [] (Exists.intro [(1000, 1000)] (Exists.intro [] ?_))
   refine st ?_
   refine cm (Zn.weak (rn []) (Zf9 r7.2 _ ZuT) rfl (WS.mk (tp Ze) (Za rfl (cc (cc (cc Zb))) Zf))) ?_
   refine st ?_
   refine AWP.weak (rn []) ?_ (Zhi r6 Zg3 r7 r13.1 r13.2 _ hF)
   exact (WS.mk (tp (tp (tp Ze))) (Za rfl (cc (cc (cc (cc (cc (cc (cc (cc (cc (cc (cc Zb))))))))))) (Za rfl (cc (cc (cc (cc (cc (cc (cc (cc (cc (cc (cc Zb))))))))))) (Za rfl (cc (cc (cc Zb))) Zf))))
  ·refine nw ?_
   refine AWP.weak (rn []) ?_ (Zhi r6 Zg3 r7 ([]) r7.2 _ hF)
   exact (WS.mk (tp (tp (tp Ze))) (Za rfl (cc (cc (cc (cc (cc (cc (cc (cc (cc (cc (cc Zb))))))))))) (Za rfl (cc (cc (cc (Zlo WE.nil (cc (cc (cc (cc (cc (cc (cc Zb))))))))))) (Za rfl (cc (cc (cc Zb))) Zf))))
 ·intro stg_parser_expr' Zc0 r6 Zg3 r7 Zo3 Zl r hF
  unfold Zb8.M
  refine AWP.seq ?_
  obtain ⟨r10, Zra, hF⟩ := bind_some hF
  refine ns ?_
  refine Exists.intro [] (Exists.intro [(1000, 1000)] (Exists.intro [] ?_))
  refine st ?_
  refine cm (Zn.weak (rn []) (Zc0 Zl _ Zra) rfl (WS.mk (tp Ze) (Za rfl (cc (cc (cc Zb))) Zf))) ?_
  refine st ?_
  refine AWP.seq ?_
  obtain ⟨r11, Zwn, hF⟩ := bind_some hF
  refine ns ?_
  refine Exists.intro _ (And.intro (ZE (f := c_S) (lc Zr) (Zx (f := c_S))) ?_)
  refine st ?_
  refine Exists.intro [36] (Exists.intro [(1000, 1000)] (Exists.intro [] ?_))
  refine st ?_
  refine cm (Zn.weak (rn []) (ZaC r10.2 ([(ByteArray.mk #[41])]) _ Zwn) rfl (WS.mk (tp (tc Ze)) (Za rfl (cc (cc (cc Zb))) Zf))) ?_
  refine st ?_
  refine AWP.seq ?_
  refine ns ?_
  obtain rfl := Zs hF
  refine ns ?_
  refine Exists.intro [(1000, 1000)] ?_
  refine st ?_
  exact wx (WS.mk (Zj (ZaM (lc (lc (lc (lc (lc (lc (lc (lc (lc (lc (lc Zr)))))))))))) Ze) (Za rfl (cc (cc (cc Zb))) Zf))
 ·intro stg_parser_expr_k2' Zhj p r hF
  unfold Zcj.M
  refine en Tryz.func127 ?_
  refine AWP.seq ?_
  refine ns ?_
  refine AWP.seq ?_
  refine AWP.seq ?_
  refine ns ?_
  refine AWP.seq ?_
  refine ns ?_
  refine nw ?_
  refine Zw hF (fun hc2 hF => ?_) (fun hc2 hF => ?_)
  ·cases hF
  ·refine nw ?_
   refine AWP.seq ?_
   obtain ⟨r3, hr3, hF⟩ := bind_some hF
   refine ns ?_
   refine Exists.intro _ (And.intro (ZE (f := c_S) (lc Zr) (Zx (f := c_S))) ?_)
   refine st ?_
   refine Exists.intro [20] (Exists.intro [(1000, 1000)] (Exists.intro [] ?_))
   refine st ?_
   refine cm (Zn.weak (rn []) (ZaC (Zg.mk p.fwords p.fat (IntKind.i64.wrap (p.fdepth + 1))) ([(ByteArray.mk #[40])]) _ hr3) rfl (WS.mk (tp (tc Ze)) (Za rfl (cc (cc (cc Zb))) Zf))) ?_
   refine st ?_
   refine AWP.seq ?_
   refine ns ?_
   refine AWP.seq ?_
   refine AWP.seq ?_
   obtain ⟨Zc1, ZrD, hF⟩ := bind_some hF
   refine ns ?_
   refine Exists.intro [] (Exists.intro [(1000, 1000)] (Exists.intro [] ?_))
   refine st ?_
   refine cm (Zn.weak (rn []) (ZaK r3 _ ZrD) rfl (WS.mk (tp Ze) (Za rfl (cc (cc (cc Zb))) Zf))) ?_
   refine st ?_
   refine AWP.seq ?_
   refine ns ?_
   refine AWP.block ?_
   refine AWP.seq ?_
   refine ns ?_
   refine nw ?_
   refine Zw hF (fun ZzL hF => ?_) (fun ZzL hF => ?_)
   ·obtain ⟨ZrR, ZuH, hF⟩ := bind_some hF
    refine ns ?_
    refine Exists.intro [] (Exists.intro [(1000, 1000)] (Exists.intro [] ?_))
    refine st ?_
    refine cm (Zn.weak (rn []) (ZeG Zc1.2 _ ZuH) rfl (WS.mk (tp Ze) (Za rfl (cc (cc (cc Zb))) Zf))) ?_
    refine st ?_
    refine AWP.weak (rn []) ?_ (ZcR (Zo.mk 1 (ByteArray.mk #[]) ZrR.1 false ([] : List Zc) ([] : List Zo) ([] : List Zi)) ZrR.2 _ hF)
    exact (WS.mk (tp (tp (tp Ze))) (Za rfl (cc (cc (cc (cc (cc (cc (cc Zb))))))) (Za rfl (cc (cc (cc (cc (Zdp (Zlo WE.nil (Zdp Zb))))))) (Za rfl (cc (cc (cc Zb))) Zf))))
   ·refine AWP.seq ?_
    refine ns ?_
    refine nw ?_
    refine Zw hF (fun ZzW hF => ?_) (fun ZzW hF => ?_)
    ·refine AWP.seq ?_
     obtain ⟨Zv9, Zzq, hF⟩ := bind_some hF
     refine ns ?_
     refine Exists.intro [] (Exists.intro [(1000, 1000)] (Exists.intro [] ?_))
     refine st ?_
     refine cm (Zn.weak (rn []) (ZaK Zc1.2 _ Zzq) rfl (WS.mk (tp Ze) (Za rfl (cc (cc (cc Zb))) Zf))) ?_
     refine st ?_
     obtain ⟨Zwd, Zzg, hF⟩ := bind_some hF
     refine ns ?_
     refine Exists.intro [] (Exists.intro [(1000, 1000)] (Exists.intro [] ?_))
     refine st ?_
     refine cm (Zn.weak (rn []) (ZeG Zv9.2 _ Zzg) rfl (WS.mk (tp Ze) (Za rfl (cc (cc (cc Zb))) Zf))) ?_
     refine st ?_
     refine AWP.weak (rn []) ?_ (ZcR (Zo.mk 2 Zv9.1 Zwd.1 false ([] : List Zc) ([] : List Zo) ([] : List Zi)) Zwd.2 _ hF)
     exact (WS.mk (tp (tp (tp Ze))) (Za rfl (cc (cc (cc (cc (cc (cc (cc Zb))))))) (Za rfl (cc (cc (cc (cc (Zdp (Zlo WE.nil (Zdp Zb))))))) (Za rfl (cc (cc (cc Zb))) Zf))))
    ·refine AWP.seq ?_
     refine ns ?_
     refine nw ?_
     refine Zw hF (fun Zzs hF => ?_) (fun Zzs hF => ?_)
     ·refine AWP.seq ?_
      obtain ⟨Zvg, ZyZ, hF⟩ := bind_some hF
      refine ns ?_
      refine Exists.intro [] (Exists.intro [(1000, 1000)] (Exists.intro [] ?_))
      refine st ?_
      refine cm (Zn.weak (rn []) (ZaK Zc1.2 _ ZyZ) rfl (WS.mk (tp Ze) (Za rfl (cc (cc (cc Zb))) Zf))) ?_
      refine st ?_
      obtain ⟨ZvF, ZAp, hF⟩ := bind_some hF
      refine ns ?_
      refine Exists.intro [] (Exists.intro [(1000, 1000)] (Exists.intro [] ?_))
      refine st ?_
      refine cm (Zn.weak (rn []) (ZeG Zvg.2 _ ZAp) rfl (WS.mk (tp Ze) (Za rfl (cc (cc (cc Zb))) Zf))) ?_
      refine st ?_
      refine AWP.weak (rn []) ?_ (ZcR (Zo.mk 3 Zvg.1 ZvF.1 false ([] : List Zc) ([] : List Zo) ([] : List Zi)) ZvF.2 _ hF)
      exact (WS.mk (tp (tp (tp Ze))) (Za rfl (cc (cc (cc (cc (cc (cc (cc Zb))))))) (Za rfl (cc (cc (cc (cc (Zdp (Zlo WE.nil (Zdp Zb))))))) (Za rfl (cc (cc (cc Zb))) Zf))))
     ·refine AWP.seq ?_
      refine ns ?_
      refine nw ?_
      refine Zw hF (fun ZAH hF => ?_) (fun ZAH hF => ?_)
      ·refine AWP.seq ?_
       obtain ⟨ZuS, Zz0, hF⟩ := bind_some hF
       refine ns ?_
       refine Exists.intro [] (Exists.intro [(1000, 1000)] (Exists.intro [] ?_))
       refine st ?_
       refine cm (Zn.weak (rn []) (ZaK Zc1.2 _ Zz0) rfl (WS.mk (tp Ze) (Za rfl (cc (cc (cc Zb))) Zf))) ?_
       refine st ?_
       obtain ⟨ZvI, ZAu, hF⟩ := bind_some hF
       refine ns ?_
       refine Exists.intro [] (Exists.intro [(1000, 1000)] (Exists.intro [] ?_))
       refine st ?_
       refine cm (Zn.weak (rn []) (ZeG ZuS.2 _ ZAu) rfl (WS.mk (tp Ze) (Za rfl (cc (cc (cc Zb))) Zf))) ?_
       refine st ?_
       refine AWP.weak (rn []) ?_ (ZcR (Zo.mk 4 ZuS.1 ZvI.1 false ([] : List Zc) ([] : List Zo) ([] : List Zi)) ZvI.2 _ hF)
       exact (WS.mk (tp (tp (tp Ze))) (Za rfl (cc (cc (cc (cc (cc (cc (cc Zb))))))) (Za rfl (cc (cc (cc (cc (Zdp (Zlo WE.nil (Zdp Zb))))))) (Za rfl (cc (cc (cc Zb))) Zf))))
      ·refine AWP.seq ?_
       refine AWP.seq ?_
       refine ns ?_
       refine nw ?_
       refine Zw hF (fun ZAh hF => ?_) (fun ZAh hF => ?_)
       ·refine nw ?_
        refine AWP.weak (rn []) ?_ (Zhj Zc1 (Zc1.1.toList == (ByteArray.mk #[108, 101, 116]).toList) _ hF)
        exact (WS.mk (tp (tp (tp (tc (tc (tc Ze)))))) (Za rfl (cc (cc (cc (cc (cc (cc (cc Zb))))))) (Za rfl (cc (cc (cc (cc (cc (cc (cc Zb))))))) (Za rfl (cc (cc (cc Zb))) Zf))))
       ·refine ns ?_
        refine AWP.weak (rn []) ?_ (Zhj Zc1 (Zc1.1.toList == (ByteArray.mk #[108, 101, 116, 114, 101, 99]).toList) _ hF)
        exact (WS.mk (tp (tp (tp (tc (tc (tc Ze)))))) (Za rfl (cc (cc (cc (cc (cc (cc (cc Zb))))))) (Za rfl (cc (cc (cc (cc (cc (cc (cc Zb))))))) (Za rfl (cc (cc (cc Zb))) Zf))))
 ·intro stg_parser_expr' stg_parser_expr_l4' stg_parser_expr_l3' Zc0 Zfg Zfb Zc1 ZsR r hF
  unfold Zc3.M
  refine nw ?_
  refine Zw hF (fun ZAa hF => ?_) (fun ZAa hF => ?_)
  ·refine AWP.seq ?_
   refine ns ?_
   refine AWP.seq ?_
   refine AWP.block ?_
   refine AWP.loop ?_
   refine AWL.weak (rn []) ?_ (Zfb Zc1 ([]) Zc1.2 _ hF)
   exact (WS.mk (tp (tp (tp Ze))) (Za rfl (cc (cc (cc (cc (cc (cc (cc Zb))))))) (Za rfl (cc (cc (cc (cc (Zdp (cc (cc Zb))))))) (Za rfl (cc (cc (cc Zb))) Zf))))
  ·refine AWP.seq ?_
   refine ns ?_
   refine nw ?_
   refine Zw hF (fun Zy7 hF => ?_) (fun Zy7 hF => ?_)
   ·refine AWP.seq ?_
    obtain ⟨Zlf, Zzn, hF⟩ := bind_some hF
    refine ns ?_
    refine Exists.intro [] (Exists.intro [(1000, 1000)] (Exists.intro [] ?_))
    refine st ?_
    refine cm (Zn.weak (rn []) (Zc0 Zc1.2 _ Zzn) rfl (WS.mk (tp Ze) (Za rfl (cc (cc (cc Zb))) Zf))) ?_
    refine st ?_
    refine Exists.intro _ (And.intro (ZE (f := Zo.cells) (Zkp (Zo.cells_eq Zlf.1) (lc (lc (lc (lc (lc (lc (lc Zr)))))))) (Zx (f := Zo.cells))) ?_)
    refine st ?_
    refine AWP.seq ?_
    obtain ⟨ZlQ, Zz8, hF⟩ := bind_some hF
    refine ns ?_
    refine Exists.intro [] (Exists.intro [(1000, 1000)] (Exists.intro [] ?_))
    refine st ?_
    refine cm (Zn.weak (rn []) (ZaK Zlf.2 _ Zz8) rfl (WS.mk (tp Ze) (Za rfl (cc (cc (cc Zb))) Zf))) ?_
    refine st ?_
    refine AWP.block ?_
    refine AWP.loop ?_
    refine AWL.weak (rn []) ?_ (Zfg ZlQ Zlf ([]) ZlQ.2 _ hF)
    exact (WS.mk (tp (tp (tp Ze))) (Za rfl (cc (cc (cc (cc (cc (cc (cc Zb))))))) (Za rfl (cc (cc (cc (cc (cc (cc (Zdp Zb))))))) (Za rfl (cc (cc (cc Zb))) Zf))))
   ·cases hF
 ·intro stg_parser_expr_l4' stg_parser_alt' Zfg ZmJ ZlQ Zlf Zk1 Zl r hF
  unfold Zc2.M
  refine AWL.step ?_
  refine AWP.seq ?_
  refine AWP.seq ?_
  obtain ⟨Zzw, ZzM, hF⟩ := bind_some hF
  refine ns ?_
  refine Exists.intro [] (Exists.intro [(1000, 1000)] (Exists.intro [] ?_))
  refine st ?_
  refine cm (Zn.weak (rn []) (ZcY Zl _ ZzM) rfl (WS.mk (tp Ze) (Za rfl (cc (cc (cc Zb))) Zf))) ?_
  refine st ?_
  refine nw ?_
  refine Zw hF (fun ZAc hF => ?_) (fun ZAc hF => ?_)
  ·refine nw ?_
   refine AWP.block ?_
   obtain ⟨ZsN, ZAB, hF⟩ := bind_some hF
   obtain ⟨Zzy, hF⟩ := ZV hF
   refine nn ?_
   refine Or.inl (Or.inl (Exists.intro 5 (Exists.intro [[], [], [], [1000], []] (Exists.intro [([91, 92, 93, 94, 95], [1000], []), ([92, 93, 94, 95], [1000], []), ([91, 92, 93, 94, 95], [], []), ([91, 92, 94, 95], [], [1000]), ([91, 92, 95], [], [])] (Exists.intro [91, 92, 93, 94, 95] (And.intro (by decide +kernel) ?_))))))
   refine dp ?_
   refine dp ?_
   refine dp ?_
   (refine st ?_; apply Exists.intro; apply Exists.intro; apply And.intro; (focus ((conv => whnf); refine Exists.intro [(1000, 1000)] ?_; (conv => whnf); refine And.intro rfl ?_; (conv => whnf); refine Zn.mono (Zn.weak (rn []) (ZmJ Zl _ ZAB) rfl (WS.mk (tp Ze) (Za rfl (cc (cc (cc Zb))) Zf))) ?_; rintro d b ⟨rfl, rfl⟩; exact And.intro rfl (And.intro rfl rfl))); apply And.intro; (focus exact rfl); (conv => whnf))
   refine de (ZE (f := Zi.cells) (Zkp (Zi.cells_eq ZsN.1) (lc (lc (lc (lc (lc (lc (lc (lc (lc (lc (lc Zr)))))))))))) (Zx (f := Zi.cells))) ?_
   refine sa (fun l => ZaE l (fun x => Zi.cells_len x)) Zzy ?_
   refine Exists.intro _ (And.intro (WE.refl _) ?_)
   rw [← List.map_append]
   refine st ?_
   refine AWL.weak (rn [(96, 4156)]) ?_ (Zfg ZlQ Zlf (Zk1 ++ ([ZsN.1])) ZsN.2 _ hF)
   exact (WS.mk (tp (tp (tp Ze))) (Za rfl (cc (cc (cc (cc (cc (cc (cc Zb))))))) (Za rfl (cc (cc (cc (cc (cc (cc (Zaf rfl (WE.refl _) Zb))))))) (Za rfl (cc (cc (cc Zb))) Zf))))
  ·refine nw ?_
   refine AWP.weak (rn [(4156, 4156)]) ?_ (ZcR (Zo.mk 6 ZlQ.1 ([] : List Zq) false ([] : List Zc) ([Zlf.1]) Zk1) Zl _ hF)
   exact (WS.mk (tp (tp (tp Ze))) (Za rfl (cc (cc (cc (cc (cc (cc (cc Zb))))))) (Za rfl (cc (cc (Zlo WE.nil (cc (Zdp (cc (Zaf rfl (WE.refl _) Zb))))))) (Za rfl (cc (cc (cc Zb))) Zf))))
 ·intro stg_parser_alt_k1' Zes p r hF
  unfold ZeJ.M
  refine en Tryz.func145 ?_
  refine AWP.seq ?_
  refine ns ?_
  refine AWP.seq ?_
  obtain ⟨r1, hr1, hF⟩ := bind_some hF
  refine ns ?_
  refine Exists.intro _ (And.intro (ZE (f := c_S) (lc Zr) (Zx (f := c_S))) ?_)
  refine st ?_
  refine Exists.intro [5] (Exists.intro [(1000, 1000)] (Exists.intro [] ?_))
  refine st ?_
  refine cm (Zn.weak (rn []) (ZaC p ([(ByteArray.mk #[40])]) _ hr1) rfl (WS.mk (tp (tc Ze)) (Za rfl (cc (cc (cc Zb))) Zf))) ?_
  refine st ?_
  refine AWP.seq ?_
  refine ns ?_
  refine AWP.seq ?_
  refine AWP.seq ?_
  obtain ⟨r13, ZuT, hF⟩ := bind_some hF
  refine ns ?_
  refine Exists.intro [] (Exists.intro [(1000, 1000)] (Exists.intro [] ?_))
  refine st ?_
  refine cm (Zn.weak (rn []) (ZaK r1 _ ZuT) rfl (WS.mk (tp Ze) (Za rfl (cc (cc (cc Zb))) Zf))) ?_
  refine st ?_
  refine AWP.block ?_
  refine AWP.seq ?_
  refine ns ?_
  refine nw ?_
  refine Zw hF (fun ZeP hF => ?_) (fun ZeP hF => ?_)
  ·refine AWP.seq ?_
   obtain ⟨r15, Zsp, hF⟩ := bind_some hF
   refine ns ?_
   refine Exists.intro [] (Exists.intro [(1000, 1000)] (Exists.intro [] ?_))
   refine st ?_
   refine cm (Zn.weak (rn []) (ZaK r13.2 _ Zsp) rfl (WS.mk (tp Ze) (Za rfl (cc (cc (cc Zb))) Zf))) ?_
   refine st ?_
   obtain ⟨r16, ZqH, hF⟩ := bind_some hF
   refine ns ?_
   refine Exists.intro [] (Exists.intro [(1000, 1000)] (Exists.intro [] ?_))
   refine st ?_
   refine cm (Zn.weak (rn []) (Zf9 r15.2 _ ZqH) rfl (WS.mk (tp Ze) (Za rfl (cc (cc (cc Zb))) Zf))) ?_
   refine st ?_
   refine AWP.weak (rn []) ?_ (Zes 1 r15.1 0 r16.1 r16.2 _ hF)
   exact (WS.mk (tp (tp (tp Ze))) (Za rfl (cc (cc (cc (cc (cc (cc (cc (cc (cc (cc (cc Zb))))))))))) (Za rfl (cc (cc (cc (cc (cc (cc (cc (cc (cc (cc (cc Zb))))))))))) (Za rfl (cc (cc (cc Zb))) Zf))))
  ·refine AWP.seq ?_
   refine ns ?_
   refine nw ?_
   refine Zw hF (fun ZsV hF => ?_) (fun ZsV hF => ?_)
   ·obtain ⟨r18, Zxj, hF⟩ := bind_some hF
    refine ns ?_
    refine Exists.intro [] (Exists.intro [(1000, 1000)] (Exists.intro [] ?_))
    refine st ?_
    refine cm (Zn.weak (rn []) (Zc5 r13.2 _ Zxj) rfl (WS.mk (tp Ze) (Za rfl (cc (cc (cc Zb))) Zf))) ?_
    refine st ?_
    refine AWP.weak (rn []) ?_ (Zes 2 (ByteArray.mk #[]) r18.1 ([]) r18.2 _ hF)
    exact (WS.mk (tp (tp (tp Ze))) (Za rfl (cc (cc (cc (cc (cc (cc (cc (cc (cc (cc (cc Zb))))))))))) (Za rfl (cc (cc (cc (Zlo WE.nil (cc (cc (cc (cc (cc (cc (cc Zb))))))))))) (Za rfl (cc (cc (cc Zb))) Zf))))
   ·refine AWP.seq ?_
    refine ns ?_
    refine nw ?_
    refine Zw hF (fun Zx3 hF => ?_) (fun Zx3 hF => ?_)
    ·obtain ⟨r20, Zyo, hF⟩ := bind_some hF
     refine ns ?_
     refine Exists.intro [] (Exists.intro [(1000, 1000)] (Exists.intro [] ?_))
     refine st ?_
     refine cm (Zn.weak (rn []) (Zc5 r13.2 _ Zyo) rfl (WS.mk (tp Ze) (Za rfl (cc (cc (cc Zb))) Zf))) ?_
     refine st ?_
     refine AWP.weak (rn []) ?_ (Zes 3 (ByteArray.mk #[]) r20.1 ([]) r20.2 _ hF)
     exact (WS.mk (tp (tp (tp Ze))) (Za rfl (cc (cc (cc (cc (cc (cc (cc (cc (cc (cc (cc Zb))))))))))) (Za rfl (cc (cc (cc (Zlo WE.nil (cc (cc (cc (cc (cc (cc (cc Zb))))))))))) (Za rfl (cc (cc (cc Zb))) Zf))))
    ·refine AWP.seq ?_
     refine ns ?_
     refine nw ?_
     refine Zw hF (fun ZvQ hF => ?_) (fun ZvQ hF => ?_)
     ·refine ns ?_
      refine AWP.weak (rn []) ?_ (Zes 4 (ByteArray.mk #[]) 0 ([]) r13.2 _ hF)
      exact (WS.mk (tp (tp (tp Ze))) (Za rfl (cc (cc (cc (cc (cc (cc (cc (cc (cc (cc (cc Zb))))))))))) (Za rfl (cc (cc (cc (Zlo WE.nil (cc (cc (cc (cc (cc (cc (cc Zb))))))))))) (Za rfl (cc (cc (cc Zb))) Zf))))
     ·cases hF
 ·intro stg_parser_expr' Zc0 Zpq Zpd ZoQ Zot Zl r hF
  unfold Zcp.M
  refine AWP.seq ?_
  obtain ⟨r11, Zwn, hF⟩ := bind_some hF
  refine ns ?_
  refine Exists.intro [] (Exists.intro [(1000, 1000)] (Exists.intro [] ?_))
  refine st ?_
  refine cm (Zn.weak (rn []) (Zc0 Zl _ Zwn) rfl (WS.mk (tp Ze) (Za rfl (cc (cc (cc Zb))) Zf))) ?_
  refine st ?_
  refine AWP.seq ?_
  obtain ⟨r12, Zv5, hF⟩ := bind_some hF
  refine ns ?_
  refine Exists.intro _ (And.intro (ZE (f := c_S) (lc Zr) (Zx (f := c_S))) ?_)
  refine st ?_
  refine Exists.intro [36] (Exists.intro [(1000, 1000)] (Exists.intro [] ?_))
  refine st ?_
  refine cm (Zn.weak (rn []) (ZaC r11.2 ([(ByteArray.mk #[41])]) _ Zv5) rfl (WS.mk (tp (tc Ze)) (Za rfl (cc (cc (cc Zb))) Zf))) ?_
  refine st ?_
  refine AWP.seq ?_
  refine ns ?_
  obtain rfl := Zs hF
  refine ns ?_
  refine Exists.intro [(1000, 1000)] ?_
  refine st ?_
  exact wx (WS.mk (Zj (ZaM (lc (lc (lc (lc (lc (lc (lc (lc (lc (lc (lc Zr)))))))))))) Ze) (Za rfl (cc (cc (cc Zb))) Zf))
 ·intro stg_parser_bind' stg_parser_expr' stg_parser_expr_l3' Zl9 Zc0 Zfb Zc1 Zk0 Zl r hF
  unfold Zc4.M
  refine AWL.step ?_
  refine AWP.seq ?_
  refine AWP.seq ?_
  obtain ⟨ZAl, Zy5, hF⟩ := bind_some hF
  refine ns ?_
  refine Exists.intro [] (Exists.intro [(1000, 1000)] (Exists.intro [] ?_))
  refine st ?_
  refine cm (Zn.weak (rn []) (ZcY Zl _ Zy5) rfl (WS.mk (tp Ze) (Za rfl (cc (cc (cc Zb))) Zf))) ?_
  refine st ?_
  refine nw ?_
  refine Zw hF (fun Zza hF => ?_) (fun Zza hF => ?_)
  ·refine nw ?_
   refine AWP.block ?_
   obtain ⟨Zsn, ZAj, hF⟩ := bind_some hF
   obtain ⟨ZAo, hF⟩ := ZV hF
   refine nn ?_
   refine Or.inl (Or.inl (Exists.intro 5 (Exists.intro [[], [], [], [1000], []] (Exists.intro [([65, 66, 67, 68, 69], [1000], []), ([66, 67, 68, 69], [1000], []), ([65, 66, 67, 68, 69], [], []), ([65, 66, 68, 69], [], [1000]), ([65, 66, 69], [], [])] (Exists.intro [65, 66, 67, 68, 69] (And.intro (by decide +kernel) ?_))))))
   refine dp ?_
   refine dp ?_
   refine dp ?_
   (refine st ?_; apply Exists.intro; apply Exists.intro; apply And.intro; (focus ((conv => whnf); refine Exists.intro [(1000, 1000)] ?_; (conv => whnf); refine And.intro rfl ?_; (conv => whnf); refine Zn.mono (Zn.weak (rn []) (Zl9 Zl _ ZAj) rfl (WS.mk (tp Ze) (Za rfl (cc (cc (cc Zb))) Zf))) ?_; rintro d b ⟨rfl, rfl⟩; exact And.intro rfl (And.intro rfl rfl))); apply And.intro; (focus exact rfl); (conv => whnf))
   refine de (ZE (f := Zc.cells) (Zkp (Zc.cells_eq Zsn.1) (lc (lc (lc (lc (lc (lc (lc (lc (lc (lc (lc Zr)))))))))))) (Zx (f := Zc.cells))) ?_
   refine sa (fun l => ZaE l (fun x => Zc.cells_len x)) ZAo ?_
   refine Exists.intro _ (And.intro (WE.refl _) ?_)
   rw [← List.map_append]
   refine st ?_
   refine AWL.weak (rn [(70, 4154)]) ?_ (Zfb Zc1 (Zk0 ++ ([Zsn.1])) Zsn.2 _ hF)
   exact (WS.mk (tp (tp (tp Ze))) (Za rfl (cc (cc (cc (cc (cc (cc (cc Zb))))))) (Za rfl (cc (cc (cc (cc (Zaf rfl (WE.refl _) (cc (cc Zb))))))) (Za rfl (cc (cc (cc Zb))) Zf))))
  ·refine nw ?_
   refine AWP.seq ?_
   obtain ⟨ZxW, Zzp, hF⟩ := bind_some hF
   refine ns ?_
   refine Exists.intro _ (And.intro (ZE (f := c_S) (lc Zr) (Zx (f := c_S))) ?_)
   refine st ?_
   refine Exists.intro [73] (Exists.intro [(1000, 1000)] (Exists.intro [] ?_))
   refine st ?_
   refine cm (Zn.weak (rn []) (ZaC Zl ([(ByteArray.mk #[105, 110])]) _ Zzp) rfl (WS.mk (tp (tc Ze)) (Za rfl (cc (cc (cc Zb))) Zf))) ?_
   refine st ?_
   obtain ⟨Zuq, Zzi, hF⟩ := bind_some hF
   refine ns ?_
   refine Exists.intro [] (Exists.intro [(1000, 1000)] (Exists.intro [] ?_))
   refine st ?_
   refine cm (Zn.weak (rn []) (Zc0 ZxW _ Zzi) rfl (WS.mk (tp Ze) (Za rfl (cc (cc (cc Zb))) Zf))) ?_
   refine st ?_
   refine Exists.intro _ (And.intro (ZE (f := Zo.cells) (Zkp (Zo.cells_eq Zuq.1) (lc (lc (lc (lc (lc (lc (lc Zr)))))))) (Zx (f := Zo.cells))) ?_)
   refine st ?_
   refine AWP.weak (rn [(4154, 4154)]) ?_ (ZcR (Zo.mk 5 (ByteArray.mk #[]) ([] : List Zq) (Zc1.1.toList == (ByteArray.mk #[108, 101, 116, 114, 101, 99]).toList) Zk0 ([Zuq.1]) ([] : List Zi)) Zuq.2 _ hF)
   exact (WS.mk (tp (tp (tp Ze))) (Za rfl (cc (cc (cc (cc (cc (cc (cc Zb))))))) (Za rfl (cc (cc (Zlo WE.nil (cc (Zaf rfl (WE.refl _) (cc (Zdp Zb))))))) (Za rfl (cc (cc (cc Zb))) Zf))))
theorem Zl4 : ∀ (p : Zg), ∀ r, ZbY p = some r → ZbY.M p r := ZlH.1

def Zbe (ZcJ : (List ZT)) (ZeY : (List Zc)) (Zl : Zg) : Option (ZG × Zg) :=
 Zar Zl >>= fun Zzh =>
 if (Zzh.toList == (ByteArray.mk #[40]).toList) = true then
 ZbY Zl >>= fun Zc1 =>
 ZaY ((ZeY.length + ([Zc1.1]).length) * 200 ≤ 140737488355328) >>= fun _ =>
 Zbe ZcJ (ZeY ++ ([Zc1.1])) Zc1.2
 else
 ZP Zl ([(ByteArray.mk #[41])]) >>= fun ZrR =>
 some (ZG.mk ZcJ ZeY, ZrR)
 partial_fixpoint
def Zbe.M (ZcJ : (List ZT)) (ZeY : (List Zc)) (Zl : Zg) (r : ZG × Zg) : Prop :=
 AWL Tryz.prog 49 (Code.sub (Zt Tryz.f60) [1, 1, 1, 1, 1, 0, 0, 0]) (Code.cont Tryz.prog 49 (Zt Tryz.f60) [1, 1, 1, 1, 1, 0, 0] (Zbl tab Tryz.f60.results (Zbo (.agg [.sl (r.1.fCons.map ZT.cells), .sl (r.1.fBinds.map Zc.cells)]) [(1000, [(none, .sl (r.2.fwords.map c_S)), (none, .v (.int .i64 r.2.fat)), (none, .v (.int .i64 r.2.fdepth))])]))) ⟨[(0, .ptr 1000 0), (2, .ptr 2 0), (3, .ptr 3 0)], [(2, [(none, .nils), (none, .nils)]), (3, [((some (4150, 69)), .sl (ZcJ.map ZT.cells)), ((some (4151, 57)), .sl (ZeY.map Zc.cells))]), (1000, [(none, .sl (Zl.fwords.map c_S)), (none, .v (.int .i64 Zl.fat)), (none, .v (.int .i64 Zl.fdepth))])]⟩
theorem Zi2 (ZcJ : (List ZT)) (ZeY : (List Zc)) (Zl : Zg) : ∀ r, Zbe ZcJ ZeY Zl = some r → Zbe.M ZcJ ZeY Zl r := by
 refine Zbe.partial_correctness ZcJ (fun ZeY Zl r => Zbe.M ZcJ ZeY Zl r) ?_ ZeY Zl
 intro stg_parser_program_l2' Zf2 ZeY Zl r hF
 have Zi5 := fun (_out_3_0 : (List ZT)) (ZeY : (List Zc)) (Zl : Zg) => Zf2 ZeY Zl
 clear Zf2
 unfold Zbe.M
 refine AWL.step ?_
 refine AWP.seq ?_
 refine AWP.seq ?_
 obtain ⟨Zzh, ZAb, hF⟩ := bind_some hF
 refine ns ?_
 refine Exists.intro [] (Exists.intro [(1000, 1000)] (Exists.intro [] ?_))
 refine st ?_
 refine cm (Zn.weak (rn []) (ZcY Zl _ ZAb) rfl (WS.mk (tp Ze) (Za rfl (cc (cc (cc Zb))) Zf))) ?_
 refine st ?_
 refine nw ?_
 refine Zw hF (fun Zy1 hF => ?_) (fun Zy1 hF => ?_)
 ·refine nw ?_
  refine AWP.block ?_
  obtain ⟨Zc1, ZrD, hF⟩ := bind_some hF
  obtain ⟨Zy4, hF⟩ := ZV hF
  refine nn ?_
  refine Or.inl (Or.inl (Exists.intro 5 (Exists.intro [[], [], [], [1000], []] (Exists.intro [([38, 39, 40, 41, 42], [1000], []), ([39, 40, 41, 42], [1000], []), ([38, 39, 40, 41, 42], [], []), ([38, 39, 41, 42], [], [1000]), ([38, 39, 42], [], [])] (Exists.intro [38, 39, 40, 41, 42] (And.intro (by decide +kernel) ?_))))))
  refine dp ?_
  refine dp ?_
  refine dp ?_
  (refine st ?_; apply Exists.intro; apply Exists.intro; apply And.intro; (focus ((conv => whnf); refine Exists.intro [(1000, 1000)] ?_; (conv => whnf); refine And.intro rfl ?_; (conv => whnf); refine Zn.mono (Zn.weak (rn []) (Zl4 Zl _ ZrD) rfl (WS.mk (tp Ze) (Za rfl (cc (cc (cc Zb))) Zf))) ?_; rintro d b ⟨rfl, rfl⟩; exact And.intro rfl (And.intro rfl rfl))); apply And.intro; (focus exact rfl); (conv => whnf))
  refine de (ZE (f := Zc.cells) (Zkp (Zc.cells_eq Zc1.1) (lc (lc (lc (lc (lc (lc (lc (lc (lc (lc (lc Zr)))))))))))) (Zx (f := Zc.cells))) ?_
  refine sa (fun l => ZaE l (fun x => Zc.cells_len x)) Zy4 ?_
  refine Exists.intro _ (And.intro (WE.refl _) ?_)
  rw [← List.map_append]
  refine st ?_
  refine AWL.weak (rn [(43, 4151), (4150, 4150)]) ?_ (Zi5 ZcJ (ZeY ++ ([Zc1.1])) Zc1.2 _ hF)
  exact (WS.mk (tp (tp (tp Ze))) (Za rfl (cc (cc Zb)) (Za rfl (Zaf rfl (WE.refl _) (Zaf rfl (WE.refl _) Zb)) (Za rfl (cc (cc (cc Zb))) Zf))))
 ·refine nw ?_
  refine AWP.seq ?_
  obtain ⟨ZrR, ZuH, hF⟩ := bind_some hF
  refine ns ?_
  refine Exists.intro _ (And.intro (ZE (f := c_S) (lc Zr) (Zx (f := c_S))) ?_)
  refine st ?_
  refine Exists.intro [46] (Exists.intro [(1000, 1000)] (Exists.intro [] ?_))
  refine st ?_
  refine cm (Zn.weak (rn []) (ZaC Zl ([(ByteArray.mk #[41])]) _ ZuH) rfl (WS.mk (tp (tc Ze)) (Za rfl (cc (cc (cc Zb))) Zf))) ?_
  refine st ?_
  refine AWP.seq ?_
  refine ns ?_
  obtain rfl := Zs hF
  refine ns ?_
  refine Exists.intro [(1000, 1000)] ?_
  refine st ?_
  exact wx (WS.mk (Zj (ZaM (lc (lc Zr))) Ze) (Za rfl (cc (cc (cc Zb))) Zf))

def Za8 (ZcJ : (List ZT)) (Zl : Zg) : Option (ZG × Zg) :=
 Zar Zl >>= fun r54 =>
 if (r54.toList == (ByteArray.mk #[40]).toList) = true then
 ZP Zl ([(ByteArray.mk #[40])]) >>= fun r56 =>
 Zy r56 >>= fun r57 =>
 ZaD r57.2 >>= fun r58 =>
 ZaD r58.2 >>= fun r59 =>
 ZP r59.2 ([(ByteArray.mk #[41])]) >>= fun r60 =>
 ZaY ((ZcJ.length + ([(ZT.mk r57.1 r58.1 r59.1)]).length) * 32 ≤ 140737488355328) >>= fun _ =>
 Za8 (ZcJ ++ ([(ZT.mk r57.1 r58.1 r59.1)])) r60
 else
 ZP Zl ([(ByteArray.mk #[41])]) >>= fun r62 =>
 Zbe ZcJ ([]) r62
 partial_fixpoint
def Za8.M (ZcJ : (List ZT)) (Zl : Zg) (r : ZG × Zg) : Prop :=
 AWL Tryz.prog 49 (Code.sub (Zt Tryz.f60) [1, 1, 1, 0, 0, 0]) (Code.cont Tryz.prog 49 (Zt Tryz.f60) [1, 1, 1, 0, 0] (Zbl tab Tryz.f60.results (Zbo (.agg [.sl (r.1.fCons.map ZT.cells), .sl (r.1.fBinds.map Zc.cells)]) [(1000, [(none, .sl (r.2.fwords.map c_S)), (none, .v (.int .i64 r.2.fat)), (none, .v (.int .i64 r.2.fdepth))])]))) ⟨[(0, .ptr 1000 0), (2, .ptr 2 0), (3, .ptr 3 0)], [(2, [(none, .nils), (none, .nils)]), (3, [((some (4150, 69)), .sl (ZcJ.map ZT.cells)), (none, .nils)]), (1000, [(none, .sl (Zl.fwords.map c_S)), (none, .v (.int .i64 Zl.fat)), (none, .v (.int .i64 Zl.fdepth))])]⟩
theorem Zjb (ZcJ : (List ZT)) (Zl : Zg) : ∀ r, Za8 ZcJ Zl = some r → Za8.M ZcJ Zl r := by
 refine Za8.partial_correctness (fun ZcJ Zl r => Za8.M ZcJ Zl r) ?_ ZcJ Zl
 intro stg_parser_program_l1' Zf1 ZcJ Zl r hF
 have Zi0 := fun (ZcJ : (List ZT)) (Zl : Zg) => Zf1 ZcJ Zl
 clear Zf1
 unfold Za8.M
 refine AWL.step ?_
 refine AWP.seq ?_
 refine AWP.seq ?_
 obtain ⟨r54, ZxX, hF⟩ := bind_some hF
 refine ns ?_
 refine Exists.intro [] (Exists.intro [(1000, 1000)] (Exists.intro [] ?_))
 refine st ?_
 refine cm (Zn.weak (rn []) (ZcY Zl _ ZxX) rfl (WS.mk (tp Ze) (Za rfl (cc (cc (cc Zb))) Zf))) ?_
 refine st ?_
 refine nw ?_
 refine Zw hF (fun ZA1 hF => ?_) (fun ZA1 hF => ?_)
 ·refine nw ?_
  refine AWP.block ?_
  refine AWP.seq ?_
  obtain ⟨r56, ZA0, hF⟩ := bind_some hF
  refine ns ?_
  refine Exists.intro _ (And.intro (ZE (f := c_S) (lc Zr) (Zx (f := c_S))) ?_)
  refine st ?_
  refine Exists.intro [12] (Exists.intro [(1000, 1000)] (Exists.intro [] ?_))
  refine st ?_
  refine cm (Zn.weak (rn []) (ZaC Zl ([(ByteArray.mk #[40])]) _ ZA0) rfl (WS.mk (tp (tc Ze)) (Za rfl (cc (cc (cc Zb))) Zf))) ?_
  refine st ?_
  refine AWP.seq ?_
  obtain ⟨r57, ZAV, hF⟩ := bind_some hF
  refine ns ?_
  refine Exists.intro [] (Exists.intro [(1000, 1000)] (Exists.intro [] ?_))
  refine st ?_
  refine cm (Zn.weak (rn []) (ZaK r56 _ ZAV) rfl (WS.mk (tp Ze) (Za rfl (cc (cc (cc Zb))) Zf))) ?_
  refine st ?_
  refine AWP.seq ?_
  obtain ⟨r58, ZBk, hF⟩ := bind_some hF
  refine ns ?_
  refine Exists.intro [] (Exists.intro [(1000, 1000)] (Exists.intro [] ?_))
  refine st ?_
  refine cm (Zn.weak (rn []) (Zc5 r57.2 _ ZBk) rfl (WS.mk (tp Ze) (Za rfl (cc (cc (cc Zb))) Zf))) ?_
  refine st ?_
  refine AWP.seq ?_
  obtain ⟨r59, Zx8, hF⟩ := bind_some hF
  refine ns ?_
  refine Exists.intro [] (Exists.intro [(1000, 1000)] (Exists.intro [] ?_))
  refine st ?_
  refine cm (Zn.weak (rn []) (Zc5 r58.2 _ Zx8) rfl (WS.mk (tp Ze) (Za rfl (cc (cc (cc Zb))) Zf))) ?_
  refine st ?_
  refine AWP.seq ?_
  obtain ⟨r60, Zwl, hF⟩ := bind_some hF
  refine ns ?_
  refine Exists.intro _ (And.intro (ZE (f := c_S) (lc Zr) (Zx (f := c_S))) ?_)
  refine st ?_
  refine Exists.intro [24] (Exists.intro [(1000, 1000)] (Exists.intro [] ?_))
  refine st ?_
  refine cm (Zn.weak (rn []) (ZaC r59.2 ([(ByteArray.mk #[41])]) _ Zwl) rfl (WS.mk (tp (tc Ze)) (Za rfl (cc (cc (cc Zb))) Zf))) ?_
  refine st ?_
  obtain ⟨ZyW, hF⟩ := ZV hF
  refine ns ?_
  refine Exists.intro _ (And.intro (ZE (f := ZT.cells) (Zkp (ZT.cells_eq (ZT.mk r57.1 r58.1 r59.1)) (lc (lc (lc Zr)))) (Zx (f := ZT.cells))) ?_)
  refine sa (fun l => ZaE l (fun x => ZT.cells_len x)) ZyW ?_
  refine Exists.intro _ (And.intro (WE.refl _) ?_)
  rw [← List.map_append]
  refine st ?_
  refine AWL.weak (rn [(30, 4150)]) ?_ (Zi0 (ZcJ ++ ([(ZT.mk r57.1 r58.1 r59.1)])) r60 _ hF)
  exact (WS.mk (tp (tp (tp Ze))) (Za rfl (cc (cc Zb)) (Za rfl (Zaf rfl (WE.refl _) (cc Zb)) (Za rfl (cc (cc (cc Zb))) Zf))))
 ·refine nw ?_
  refine AWP.seq ?_
  obtain ⟨r62, Zyb, hF⟩ := bind_some hF
  refine ns ?_
  refine Exists.intro _ (And.intro (ZE (f := c_S) (lc Zr) (Zx (f := c_S))) ?_)
  refine st ?_
  refine Exists.intro [33] (Exists.intro [(1000, 1000)] (Exists.intro [] ?_))
  refine st ?_
  refine cm (Zn.weak (rn []) (ZaC Zl ([(ByteArray.mk #[41])]) _ Zyb) rfl (WS.mk (tp (tc Ze)) (Za rfl (cc (cc (cc Zb))) Zf))) ?_
  refine st ?_
  refine AWP.seq ?_
  refine AWP.block ?_
  refine AWP.loop ?_
  refine AWL.weak (rn [(4150, 4150)]) ?_ (Zi2 ZcJ ([]) r62 _ hF)
  exact (WS.mk (tp (tp (tp Ze))) (Za rfl (cc (cc Zb)) (Za rfl (Zaf rfl (WE.refl _) (Zdp Zb)) (Za rfl (cc (cc (cc Zb))) Zf))))

def ZcC (p : Zg) : Option (ZG × Zg) :=
 ZP p ([(ByteArray.mk #[40]), (ByteArray.mk #[112, 114, 111, 103, 114, 97, 109]), (ByteArray.mk #[40])]) >>= fun r1 =>
 Za8 ([]) r1
def ZcC.M (p : Zg) (r : ZG × Zg) : Prop :=
 Zn Tryz.prog 60 [.ptr 1000 0] [(1000, [(none, .sl (p.fwords.map c_S)), (none, .v (.int .i64 p.fat)), (none, .v (.int .i64 p.fdepth))])] (fun d b => d = .agg [.sl (r.1.fCons.map ZT.cells), .sl (r.1.fBinds.map Zc.cells)] ∧ b = [(1000, [(none, .sl (r.2.fwords.map c_S)), (none, .v (.int .i64 r.2.fat)), (none, .v (.int .i64 r.2.fdepth))])])
theorem ZkE (p : Zg) (r : ZG × Zg) (hF : ZcC p = some r) : ZcC.M p r := by
 unfold ZcC at hF
 unfold ZcC.M
 refine en Tryz.func60 ?_
 refine AWP.seq ?_
 refine ns ?_
 refine AWP.seq ?_
 refine ns ?_
 refine AWP.seq ?_
 obtain ⟨r1, hr1, hF⟩ := bind_some hF
 refine ns ?_
 refine Exists.intro _ (And.intro (ZE (f := c_S) (lc Zr) (ZE (f := c_S) (lc Zr) (ZE (f := c_S) (lc Zr) (Zx (f := c_S))))) ?_)
 refine st ?_
 refine Exists.intro [6] (Exists.intro [(1000, 1000)] (Exists.intro [] ?_))
 refine st ?_
 refine cm (Zn.weak (rn []) (ZaC p ([(ByteArray.mk #[40]), (ByteArray.mk #[112, 114, 111, 103, 114, 97, 109]), (ByteArray.mk #[40])]) _ hr1) rfl (WS.mk (tp (tc Ze)) (Za rfl (cc (cc (cc Zb))) Zf))) ?_
 refine st ?_
 refine AWP.seq ?_
 refine AWP.block ?_
 refine AWP.loop ?_
 refine AWL.weak (rn []) ?_ (Zjb ([]) r1 _ hF)
 exact (WS.mk (tp (tp (tp Ze))) (Za rfl (cc (cc Zb)) (Za rfl (Zdp (cc Zb)) (Za rfl (cc (cc (cc Zb))) Zf))))

def ZhK (words : (List ByteArray)) : Option (ZG × Bool) :=
 ZcC (Zg.mk words 0 0) >>= fun r1 =>
 some (r1.1, r1.2.fat == ((words.length : Nat) : Int))
def ZhK.M (words : (List ByteArray)) (r : ZG × Bool) : Prop :=
 Zn Tryz.prog 27 [.c none (.sl (words.map c_S))] [] (fun d b => d = .tup [.agg [.sl (r.1.fCons.map ZT.cells), .sl (r.1.fBinds.map Zc.cells)], .c (.v (.bool r.2))] ∧ b = [])
theorem Zr8 (words : (List ByteArray)) (r : ZG × Bool) (hF : ZhK words = some r) : ZhK.M words r := by
 unfold ZhK at hF
 unfold ZhK.M
 refine en Tryz.func27 ?_
 refine AWP.seq ?_
 refine ns ?_
 refine AWP.seq ?_
 refine AWP.deferReg tabOk (by decide) rfl ⟨rfl, rfl⟩ rfl ?_
 refine st ?_
 refine Exists.intro 59 (Exists.intro _ (And.intro rfl (And.intro ZsC ?_)))
 (conv => whnf)
 refine AWP.seq ?_
 refine ns ?_
 refine AWP.seq ?_
 obtain ⟨r1, hr1, hF⟩ := bind_some hF
 refine ns ?_
 refine Exists.intro [] (Exists.intro [(8, 1000)] (Exists.intro [] ?_))
 refine st ?_
 refine cm (Zn.weak (rn []) (ZkE (Zg.mk words 0 0) _ hr1) rfl (WS.mk (tp Ze) (Za rfl (cc (cc (cc Zb))) Zf))) ?_
 refine st ?_
 refine AWP.seq ?_
 refine nn ?_
 refine Or.inl (Or.inl (Exists.intro 9 (Exists.intro [[], [], [], [], [], [], [], [], [2]] (Exists.intro [([11, 12, 13, 14, 15, 16, 17, 18], [], []), ([11, 12, 13, 14, 15, 16, 17, 18], [2], []), ([11, 13, 14, 15, 16, 17, 18], [2], []), ([11, 14, 15, 16, 17, 18], [2], []), ([11, 15, 16, 17, 18], [2], []), ([11, 12, 13, 14, 15, 16, 17, 18], [2], []), ([11, 12, 13, 14, 15, 17, 18], [2], []), ([11, 18], [2], []), ([12, 13, 14, 15, 16, 17, 18], [], [2])] (Exists.intro [11, 12, 13, 14, 15, 16, 17, 18] (And.intro (by decide +kernel) ?_))))))
 refine dp ?_
 refine dp ?_
 refine dp ?_
 refine dp ?_
 refine dp ?_
 refine dp ?_
 refine dl ?_
 refine dp ?_
 refine dp ?_
 refine st ?_
 obtain rfl := Zs hF
 refine ns ?_
 refine Exists.intro [] ?_
 refine st ?_
 exact wx (WS.mk (Zj (Zb1 (ZoD (lc (lc Zr)) (ZBP (WE.refl _) Zb3))) Ze) Zf)

def ZfT (s : ByteArray) : Option (ZG × ZhU) :=
 strings_Split s (ByteArray.mk #[32]) >>= fun r1 =>
 ZhK r1 >>= fun r2 =>
 (if (!r2.2) = true then some true else Ze6 r2.1 >>= fun r8 =>
 some (r8 != 0)) >>= fun c9 =>
 (if c9 = true then some true else ZeH r2.1 >>= fun r10 =>
 some (!(r10.toList == s.toList))) >>= fun c11 =>
 if c11 = true then
 some (ZG.mk ([] : List ZT) ([] : List Zc), ZhU.mk 31 (ByteArray.mk #[]) 0 0)
 else
 some (r2.1, ZhU.mk 0 (ByteArray.mk #[]) 0 0)
def ZfT.M (s : ByteArray) (r : ZG × ZhU) : Prop :=
 Zn Tryz.prog 11 [.c none (.v (.string s))] [] (fun d b => d = .tup [.agg [.sl (r.1.fCons.map ZT.cells), .sl (r.1.fBinds.map Zc.cells)], .agg [.v (.int .i64 r.2.fCode), .v (.string r.2.fName), .v (.int .i64 r.2.fLine), .v (.int .i64 r.2.fCol)]] ∧ b = [])
theorem Zq9 (s : ByteArray) (r : ZG × ZhU) (hF : ZfT s = some r) : ZfT.M s r := by
 unfold ZfT at hF
 unfold ZfT.M
 refine en Tryz.func11 ?_
 refine AWP.seq ?_
 refine ns ?_
 refine AWP.seq ?_
 obtain ⟨r1, hr1, hF⟩ := bind_some hF
 obtain ⟨r2, hr2, hF⟩ := bind_some hF
 refine ns ?_
 refine e3 ?_
 refine st ?_
 refine cm (Zn.weak (rn []) (Zng s (ByteArray.mk #[32]) _ hr1) rfl (WS.mk (tc (tc Ze)) Zf)) ?_
 refine st ?_
 refine e3 ?_
 refine st ?_
 refine cm (Zn.weak (rn []) (Zr8 r1 _ hr2) rfl (WS.mk (tc Ze) Zf)) ?_
 refine st ?_
 refine AWP.seq ?_
 refine AWP.seq ?_
 obtain ⟨c9, hc9, hF⟩ := bind_some hF
 obtain ⟨c11, ZeF, hF⟩ := bind_some hF
 refine AWP.cutN (fun T => ∃ r, WS r T ⟨[(2, .ptr 2 0), (3, .ptr 3 0), (4, .ptr 4 0), (24, .c none (.v (.bool c11)))], [(2, [(none, .nils), (none, .nils)]), (3, [(none, .v (.int .i64 0)), (none, .v (.string (ByteArray.mk #[]))), (none, .v (.int .i64 0)), (none, .v (.int .i64 0))]), (4, [(none, .sl (r2.1.fCons.map ZT.cells)), (none, .sl (r2.1.fBinds.map Zc.cells))])]⟩) ?_ (fun T hw => ?_)
 ·refine ns ?_
  refine ZA false (fun Zck => ?_) (fun Zck => ?_)
  ·have hc9 := ift Zck hc9
   (conv => whnf)
   obtain rfl := Zs hc9
   have ZeF := ift Zck ZeF
   obtain rfl := Zs ZeF
   refine st ?_
   exact wx (WS.mk (tp (tp (tp (Zj (Zaj (web Zck)) Ze)))) (Za rfl (cc (cc Zb)) (Za rfl (cc (cc (cc (cc Zb)))) (Za rfl (cc (cc Zb)) Zf))))
  ·have hc9 := ife Zck hc9
   obtain ⟨r8, hr8, hc9⟩ := bind_some hc9
   (conv => whnf)
   refine st ?_
   refine e3 ?_
   refine st ?_
   refine cm (Zn.weak (rn []) (ZmB r2.1 _ hr8) rfl (WS.mk (Zj (ZaM (lc (lc Zr))) Ze) Zf)) ?_
   refine st ?_
   obtain rfl := Zs hc9
   refine st ?_
   refine ZA false (fun ZdK => ?_) (fun ZdK => ?_)
   ·have ZeF := ift (And.intro Zck ZdK) ZeF
    (conv => whnf)
    obtain rfl := Zs ZeF
    refine st ?_
    exact wx (WS.mk (tp (tp (tp (Zj (Zaj (web (And.intro Zck ZdK))) Ze)))) (Za rfl (cc (cc Zb)) (Za rfl (cc (cc (cc (cc Zb)))) (Za rfl (cc (cc Zb)) Zf))))
   ·have ZeF := ife (And.intro Zck ZdK) ZeF
    obtain ⟨r10, Zra, ZeF⟩ := bind_some ZeF
    (conv => whnf)
    refine st ?_
    refine e3 ?_
    refine st ?_
    refine cm (Zn.weak (rn []) (ZmQ r2.1 _ Zra) rfl (WS.mk (Zj (ZaM (lc (lc Zr))) Ze) Zf)) ?_
    refine st ?_
    obtain rfl := Zs ZeF
    refine st ?_
    exact wx (WS.mk (tp (tp (tp (Zj (Zaj (web (And.intro Zck ZdK))) Ze)))) (Za rfl (cc (cc Zb)) (Za rfl (cc (cc (cc (cc Zb)))) (Za rfl (cc (cc Zb)) Zf))))
 obtain ⟨r0, hw⟩ := hw
 (conv => whnf)
 refine AWP.weak r0 hw ?_
 refine nw ?_
 refine Zw hF (fun ZeP hF => ?_) (fun ZeP hF => ?_)
 ·refine AWP.seq ?_
  refine ns ?_
  obtain rfl := Zs hF
  refine ns ?_
  refine Exists.intro [] ?_
  refine st ?_
  exact wx (WS.mk (Zj (Zb1 (ZoD (ZdO WE.nil (ZdO WE.nil Zr)) (ZoD (lc (lc (lc (lc Zr)))) Zb3))) Ze) Zf)
 ·refine nw ?_
  refine AWP.seq ?_
  refine ns ?_
  obtain rfl := Zs hF
  refine ns ?_
  refine Exists.intro [] ?_
  refine st ?_
  exact wx (WS.mk (Zj (Zb1 (ZoD (lc (lc Zr)) (ZoD (lc (lc (lc (lc Zr)))) Zb3))) Ze) Zf)

end Go.Proofs.YtklkaikbpciepaaGreatDoor
