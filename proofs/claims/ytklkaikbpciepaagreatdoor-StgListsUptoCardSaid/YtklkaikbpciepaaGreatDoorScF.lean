/- Part 6 of the proof: the program's functions as Lean functions with their walks, and the plain law. It holds for every input, without conditions. -/
import Derived.Test.YtklkaikbpciepaaGreatDoorScA
import Derived.Test.YtklkaikbpciepaaGreatDoorScB
import Derived.Test.YtklkaikbpciepaaGreatDoorScC
import Derived.Test.YtklkaikbpciepaaGreatDoorScD
import Derived.Test.YtklkaikbpciepaaGreatDoorScE
set_option linter.unusedVariables false
set_option linter.unusedSimpArgs false
set_option maxRecDepth 100000
set_option maxHeartbeats 4000000
set_option synthInstance.maxHeartbeats 1000000
set_option synthInstance.maxSize 1000
namespace Go.Proofs.YtklkaikbpciepaaGreatDoor
open Go Go.Am
mutual
def ZaW (p : Zi) (b : Za) (local_ : (List ByteArray)) : Option (Bool) :=
 (if (!((((b.fOp == 1) && (decide (((b.fParams.length : Nat) : Int) > 0))) || ((b.fOp == 2) && (((b.fParams.length : Nat) : Int) == 0))) || (((b.fOp == 3) && (((b.fParams.length : Nat) : Int) == 0)) && (b.fBody.fOp == 3)))) = true then some true else ZbU b.fName >>= fun r23 =>
 some (!r23)) >>= fun c24 =>
 (if c24 = true then some true else ZbI b.fParams >>= fun r25 =>
 some (!r25)) >>= fun c26 =>
 if c26 = true then
 some false
 else
 ZaU b >>= fun r30 =>
 Zbi local_ ([] : List ByteArray) r30 0 p b r30
 partial_fixpoint
def Zbi (local_ : (List ByteArray)) (Zfs : (List ByteArray)) (r30 : ((List ByteArray))) (Znl : Nat) (p : Zi) (b : Za) (Zgf : (List ByteArray)) : Option (Bool) :=
 (match Zgf with
 | x79 :: ZDc =>
 Zc9 local_ x79 >>= fun r82 =>
 if r82 = true then
 ZaK ((Zfs.length + ([x79]).length) * 16 ≤ 140737488355328) >>= fun _ =>
 Zbi local_ (Zfs ++ ([x79])) r30 (Znl + 1) p b ZDc
 else
 Zbi local_ Zfs r30 (Znl + 1) p b ZDc
 | [] =>
 if (((Zfs.length : Nat) : Int) != ((b.fFree.length : Nat) : Int)) = true then
 some false
 else
 Za3 local_ Zfs 0 p b Zfs)
 partial_fixpoint
def Za3 (local_ : (List ByteArray)) (Zfs : (List ByteArray)) (Znp : Nat) (p : Zi) (b : Za) (Zgb : (List ByteArray)) : Option (Bool) :=
 (match Zgb with
 | ZEK :: ZCA =>
 (b.fFree[Znp]?) >>= fun ZHF =>
 if (!(ZEK.toList == ZHF.toList)) = true then
 some false
 else
 Za3 local_ Zfs (Znp + 1) p b ZCA
 | [] =>
 ZaK ((([] : List ByteArray).length + local_.length) * 16 ≤ 140737488355328) >>= fun _ =>
 ZaK (((([] : List ByteArray) ++ local_).length + b.fParams.length) * 16 ≤ 140737488355328) >>= fun _ =>
 ZbT p b.fBody ((([] : List ByteArray) ++ local_) ++ b.fParams) >>= fun ZBG =>
 some ZBG)
 partial_fixpoint
def ZbT (p : Zi) (e : Zj) (local_ : (List ByteArray)) : Option (Bool) :=
 Zeg e >>= fun r12 =>
 (if (!r12) = true then some true else ZcT e.fAlts >>= fun r13 =>
 some (!r13)) >>= fun c14 =>
 (if c14 = true then some true else Zbp e.fBinds >>= fun r15 =>
 ZbI r15 >>= fun r16 =>
 some (!r16)) >>= fun c17 =>
 (if c17 = true then some true else (if (e.fOp == 3) = true then Zbs p.fCons e.fName ((e.fArgs.length : Nat) : Int) >>= fun r19 =>
 some (!r19) else some false) >>= fun c20 =>
 some c20) >>= fun c21 =>
 if c21 = true then
 some false
 else
 ZaK ((([] : List ByteArray).length + local_.length) * 16 ≤ 140737488355328) >>= fun _ =>
 Zbp e.fBinds >>= fun r31 =>
 ZaK (((([] : List ByteArray) ++ local_).length + r31.length) * 16 ≤ 140737488355328) >>= fun _ =>
 if e.fRec = true then
 ZbB local_ r31 ((([] : List ByteArray) ++ local_) ++ r31) p e
 else
 ZbB local_ r31 local_ p e
 partial_fixpoint
def ZbB (local_ : (List ByteArray)) (r31 : ((List ByteArray))) (ZeR : (List ByteArray)) (p : Zi) (e : Zj) : Option (Bool) :=
 ZcG local_ r31 ZeR 0 p e e.fBinds
 partial_fixpoint
def ZcG (local_ : (List ByteArray)) (r31 : ((List ByteArray))) (ZeR : (List ByteArray)) (i_9 : Nat) (p : Zi) (e : Zj) (Zpo : (List Za)) : Option (Bool) :=
 (match Zpo with
 | x82 :: ZHL =>
 ZaW p x82 ZeR >>= fun r86 =>
 if (!r86) = true then
 some false
 else
 ZcG local_ r31 ZeR (i_9 + 1) p e ZHL
 | [] =>
 Zcj local_ r31 0 p e e.fKids)
 partial_fixpoint
def Zcj (local_ : (List ByteArray)) (r31 : ((List ByteArray))) (Znl : Nat) (p : Zi) (e : Zj) (Zgf : (List Zj)) : Option (Bool) :=
 (match Zgf with
 | ZEz :: ZCo =>
 ZbT p ZEz ((([] : List ByteArray) ++ local_) ++ r31) >>= fun ZyA =>
 if (!ZyA) = true then
 some false
 else
 Zcj local_ r31 (Znl + 1) p e ZCo
 | [] =>
 Zcf local_ 0 p e e.fAlts)
 partial_fixpoint
def Zcf (local_ : (List ByteArray)) (Znp : Nat) (p : Zi) (e : Zj) (Zgb : (List Zf)) : Option (Bool) :=
 (match Zgb with
 | Zt0 :: ZCg =>
 (if (Zt0.fOp == 1) = true then Zbs p.fCons Zt0.fName ((Zt0.fVars.length : Nat) : Int) >>= fun Zyz =>
 some (!Zyz) else some false) >>= fun c213 =>
 (if c213 = true then some true else ZaK ((([e.fName]).length + Zt0.fVars.length) * 16 ≤ 140737488355328) >>= fun _ =>
 ZbI (([e.fName]) ++ Zt0.fVars) >>= fun ZEg =>
 some (!ZEg)) >>= fun c216 =>
 if c216 = true then
 some false
 else
 ZaK ((([] : List ByteArray).length + local_.length) * 16 ≤ 140737488355328) >>= fun _ =>
 ZaK (((([] : List ByteArray) ++ local_).length + ([e.fName]).length) * 16 ≤ 140737488355328) >>= fun _ =>
 ZaK ((((([] : List ByteArray) ++ local_) ++ ([e.fName])).length + Zt0.fVars.length) * 16 ≤ 140737488355328) >>= fun _ =>
 ZbT p Zt0.fBody (((([] : List ByteArray) ++ local_) ++ ([e.fName])) ++ Zt0.fVars) >>= fun ZhM =>
 if (!ZhM) = true then
 some false
 else
 Zcf local_ (Znp + 1) p e ZCg
 | [] =>
 some true)
 partial_fixpoint
end
def ZaW.M (p : Zi) (b : Za) (local_ : (List ByteArray)) (r : Bool) : Prop :=
 Zq Tryz.prog 90 [.agg [.sl (p.fCons.map Zk.cells), .sl (p.fBinds.map Za.cells)], .agg (Za.fl b), .c none (.sl (local_.map c_S))] [] (fun d b => d = .c none (.v (.bool r)) ∧ b = [])
def Zbi.M (p : Zi) (local_ : (List ByteArray)) (Zfs : (List ByteArray)) (r30 : ((List ByteArray))) (Znl : Nat) (b : Za) (Zgf : (List ByteArray)) (r : Bool) : Prop :=
 ∀ ZkB : List ByteArray, r30 = ZkB ++ Zgf → Znl = ZkB.length → nL 117 Tryz.f90 [1, 1, 1, 1, 1, 0, 1, 0] (.c none (.v (.bool r))) [] ⟨[(2, .c none (.sl (local_.map c_S))), (3, .ptr 3 0), (4, .ptr 4 0), (8, .c (some (8, 9)) (.sl (Zfs.map c_S))), (9, .c (some (9, 9)) (.sl (r30.map c_S))), (10, .c none (.v (.int .i64 ((Znl : Nat) : Int))))], [(3, [(none, .sl (p.fCons.map Zk.cells)), (none, .sl (p.fBinds.map Za.cells))]), (4, (Za.bx b))]⟩
def Za3.M (p : Zi) (local_ : (List ByteArray)) (Zfs : (List ByteArray)) (Znp : Nat) (b : Za) (Zgb : (List ByteArray)) (r : Bool) : Prop :=
 ∀ ZkF : List ByteArray, Zfs = ZkF ++ Zgb → Znp = ZkF.length → Zfs.length ≤ maxLen → b.fFree.length ≤ maxLen → nL 117 Tryz.f90 [1, 1, 1, 1, 1, 1, 1, 0, 1, 0] (.c none (.v (.bool r))) [] ⟨[(2, .c none (.sl (local_.map c_S))), (3, .ptr 3 0), (4, .ptr 4 0), (8, .c (some (8, 9)) (.sl (Zfs.map c_S))), (11, .c none (.v (.int .i64 ((Znp : Nat) : Int))))], [(3, [(none, .sl (p.fCons.map Zk.cells)), (none, .sl (p.fBinds.map Za.cells))]), (4, (Za.bx b))]⟩
def ZbT.M (p : Zi) (e : Zj) (local_ : (List ByteArray)) (r : Bool) : Prop :=
 Zq Tryz.prog 124 [.agg [.sl (p.fCons.map Zk.cells), .sl (p.fBinds.map Za.cells)], .agg (Zj.fl e), .c none (.sl (local_.map c_S))] [] (fun d b => d = .c none (.v (.bool r)) ∧ b = [])
def ZbB.M (p : Zi) (local_ : (List ByteArray)) (r31 : ((List ByteArray))) (ZeR : (List ByteArray)) (e : Zj) (r : Bool) : Prop :=
 nP 139 Tryz.f124 [1, 1, 1, 1, 1] (.c none (.v (.bool r))) [] ⟨[(2, .c none (.sl (local_.map c_S))), (3, .ptr 3 0), (4, .ptr 4 0), (7, .c (some (7, 9)) (.sl (((([] : List ByteArray) ++ local_) ++ r31).map c_S))), (8, .c none (.sl (ZeR.map c_S)))], [(3, [(none, .sl (p.fCons.map Zk.cells)), (none, .sl (p.fBinds.map Za.cells))]), (4, (Zj.bx e))]⟩
def ZcG.M (p : Zi) (local_ : (List ByteArray)) (r31 : ((List ByteArray))) (ZeR : (List ByteArray)) (i_9 : Nat) (e : Zj) (Zpo : (List Za)) (r : Bool) : Prop :=
 ∀ Zvf : List Za, e.fBinds = Zvf ++ Zpo → i_9 = Zvf.length → nL 139 Tryz.f124 [1, 1, 1, 1, 1, 0, 1, 0] (.c none (.v (.bool r))) [] ⟨[(2, .c none (.sl (local_.map c_S))), (3, .ptr 3 0), (4, .ptr 4 0), (7, .c (some (7, 9)) (.sl (((([] : List ByteArray) ++ local_) ++ r31).map c_S))), (8, .c none (.sl (ZeR.map c_S))), (9, .c none (.v (.int .i64 ((i_9 : Nat) : Int))))], [(3, [(none, .sl (p.fCons.map Zk.cells)), (none, .sl (p.fBinds.map Za.cells))]), (4, (Zj.bx e))]⟩
def Zcj.M (p : Zi) (local_ : (List ByteArray)) (r31 : ((List ByteArray))) (Znl : Nat) (e : Zj) (Zgf : (List Zj)) (r : Bool) : Prop :=
 ∀ ZkB : List Zj, e.fKids = ZkB ++ Zgf → Znl = ZkB.length → e.fBinds.length ≤ maxLen → nL 139 Tryz.f124 [1, 1, 1, 1, 1, 1, 0, 1, 0] (.c none (.v (.bool r))) [] ⟨[(2, .c none (.sl (local_.map c_S))), (3, .ptr 3 0), (4, .ptr 4 0), (7, .c (some (7, 9)) (.sl (((([] : List ByteArray) ++ local_) ++ r31).map c_S))), (10, .c none (.v (.int .i64 ((Znl : Nat) : Int))))], [(3, [(none, .sl (p.fCons.map Zk.cells)), (none, .sl (p.fBinds.map Za.cells))]), (4, (Zj.bx e))]⟩
def Zcf.M (p : Zi) (local_ : (List ByteArray)) (Znp : Nat) (e : Zj) (Zgb : (List Zf)) (r : Bool) : Prop :=
 ∀ ZkF : List Zf, e.fAlts = ZkF ++ Zgb → Znp = ZkF.length → e.fBinds.length ≤ maxLen → e.fKids.length ≤ maxLen → nL 139 Tryz.f124 [1, 1, 1, 1, 1, 1, 1, 0, 1, 0] (.c none (.v (.bool r))) [] ⟨[(2, .c none (.sl (local_.map c_S))), (3, .ptr 3 0), (4, .ptr 4 0), (11, .c none (.v (.int .i64 ((Znp : Nat) : Int))))], [(3, [(none, .sl (p.fCons.map Zk.cells)), (none, .sl (p.fBinds.map Za.cells))]), (4, (Zj.bx e))]⟩
theorem Zmx (p : Zi) : (∀ b local_ r, ZaW p b local_ = some r → ZaW.M p b local_ r) ∧ (∀ local_ Zfs r30 Znl b Zgf r, Zbi local_ Zfs r30 Znl p b Zgf = some r → Zbi.M p local_ Zfs r30 Znl b Zgf r) ∧ (∀ local_ Zfs Znp b Zgb r, Za3 local_ Zfs Znp p b Zgb = some r → Za3.M p local_ Zfs Znp b Zgb r) ∧ (∀ e local_ r, ZbT p e local_ = some r → ZbT.M p e local_ r) ∧ (∀ local_ r31 ZeR e r, ZbB local_ r31 ZeR p e = some r → ZbB.M p local_ r31 ZeR e r) ∧ (∀ local_ r31 ZeR i_9 e Zpo r, ZcG local_ r31 ZeR i_9 p e Zpo = some r → ZcG.M p local_ r31 ZeR i_9 e Zpo r) ∧ (∀ local_ r31 Znl e Zgf r, Zcj local_ r31 Znl p e Zgf = some r → Zcj.M p local_ r31 Znl e Zgf r) ∧ (∀ local_ Znp e Zgb r, Zcf local_ Znp p e Zgb = some r → Zcf.M p local_ Znp e Zgb r) := by
 refine ZaW.mutual_partial_correctness p (ZaW.M p) (Zbi.M p) (Za3.M p) (ZbT.M p) (ZbB.M p) (ZcG.M p) (Zcj.M p) (Zcf.M p) ?_ ?_ ?_ ?_ ?_ ?_ ?_ ?_
 ·intro lazycref36_binding_l1' Zex b local_ r hF
  unfold ZaW.M
  refine en Tryz.func90 ?_
  refine ns ?_
  refine sq ?_
  refine zck [2, 3, 4] [3, 4] [(7, .c none (.v (.bool ((((b.fOp == 1) && (decide (((b.fParams.length : Nat) : Int) > 0))) || ((b.fOp == 2) && (((b.fParams.length : Nat) : Int) == 0))) || (((b.fOp == 3) && (((b.fParams.length : Nat) : Int) == 0)) && (b.fBody.fOp == 3))))))] ?_ ?_
  ·exact zpt
  obtain ⟨c24, ZjD, hF⟩ := bind_some hF
  obtain ⟨c26, ZmW, hF⟩ := bind_some hF
  refine sq (sq ?_)
  refine zck [2, 3, 4] [3, 4] [(62, .c none (.v (.bool c26)))] ?_ ?_
  ·refine zbf (fun Znu => ?_) (fun Znu => ?_)
   ·have ZjD := ift Znu ZjD
    obtain rfl := Ze ZjD
    have ZmW := ift Znu ZmW
    obtain rfl := Ze ZmW
    refine zgo ?_
    exact zwe
   ·have ZjD := ife Znu ZjD
    obtain ⟨r23, ZCJ, ZjD⟩ := bind_some ZjD
    refine zca [] [] [] (Zd0 ZCJ) ?_
    obtain rfl := Ze ZjD
    refine zbf (fun Zto => ?_) (fun Zto => ?_)
    ·have ZmW := ift (an Znu Zto) ZmW
     obtain rfl := Ze ZmW
     refine zgo ?_
     exact zwe
    ·have ZmW := ife (an Znu Zto) ZmW
     obtain ⟨r25, ZuK, ZmW⟩ := bind_some ZmW
     refine zca [] [] [] (ZdD ZuK) ?_
     obtain rfl := Ze ZmW
     refine zgo ?_
     exact zwe
  refine zbr hF (fun ZoR hF => ?_) (fun ZoR hF => ?_)
  ·obtain rfl := Ze hF
   exact zre []
  ·refine zgo ?_
   refine ea (Zp (f := c_S)) ?_
   obtain ⟨r30, ZIT, hF⟩ := bind_some hF
   refine zca [] [] [] (ZmB ZIT) ?_
   exact znr (rn [(63, 8), (65, 9)]) (Zex _ _ _ _ _ _ _ hF ([]) rfl rfl)
 ·intro lazycref36_binding_l1' lazycref36_binding_l2' Zex ZfM local_ Zfs r30 Znl b Zgf r hF
  unfold Zbi.M nL
  intro ZkB ZoG ZoK
  refine AWL.step ?_
  refine zln fun hlen78 => ?_
  refine zbl ZoG ZoK (fun x79 ZDc ZDC ZEV hl81 => ?_) (fun ZDC => ?_)
  ·subst ZDC
   obtain ⟨r82, ZIZ, hF⟩ := bind_some hF
   refine zsr (Zr (f := c_S) rfl ZEV) ?_
   refine zca [] [] [] (ZgV ZIZ) ?_
   refine zbr hF (fun ZCN hF => ?_) (fun ZCN hF => ?_)
   ·obtain ⟨ZIO, hF⟩ := Zx hF
    refine zsr (Zr (f := c_S) rfl ZEV) ?_
    refine zgo ?_
    refine ea (ZH (f := c_S) (lc Zn) (Zp (f := c_S))) (zsa (fun l => Zaf l (fun x => Zbb x)) ZIO ?_)
    refine ea (WE.refl _) ?_
    rw [← List.map_append]
    exact znr (rn [(9, 9), (84, 8)]) (Zex _ _ _ _ _ _ _ hF _ (zlh ZoG) (zlk ZoK))
   ·exact znl (Zex _ _ _ _ _ _ _ hF _ (zlh ZoG) (zlk ZoK))
  ·subst ZDC
   refine zln fun hlen88 => ?_
   refine zln fun hlen89 => ?_
   refine zbr hF (fun ZJZ hF => ?_) (fun ZJZ hF => ?_)
   ·obtain rfl := Ze hF
    exact zre []
   ·exact znl (ZfM _ _ _ _ _ _ hF ([]) rfl rfl hlen88 hlen89)
 ·intro lazycref36_binding_l2' lazycref36_expr' ZfM Ze6 local_ Zfs Znp b Zgb r hF
  unfold Za3.M nL
  intro ZkF ZpN Zp5 hlen88 hlen89
  refine AWL.step ?_
  refine zln fun hlen138 => ?_
  refine zbl ZpN Zp5 (fun ZEK ZCA ZAg ZIn hl141 => ?_) (fun ZAg => ?_)
  ·subst ZAg
   obtain ⟨ZHF, ZIm, hF⟩ := bind_some hF
   refine zdo 9 [97, 98, 99, 100, 101, 102, 103, 104, 105] [511, 511, 508, 504, 511, 495, 511, 399, 271] ?_
   refine dp ?_
   refine dp ?_
   refine dr (Zr rfl ZIn) ?_
   refine dp ?_
   refine dp ?_
   refine dp ?_
   refine dp ?_
   refine dr (Zr rfl ZIm) ?_
   refine zdp ?_
   refine zbr hF (fun ZAK hF => ?_) (fun ZAK hF => ?_)
   ·obtain rfl := Ze hF
    exact zre []
   ·exact znl (ZfM _ _ _ _ _ _ hF _ (zlh ZpN) (zlk Zp5) hlen138 hlen89)
  ·subst ZAg
   obtain ⟨ZFw, hF⟩ := Zx hF
   obtain ⟨ZzC, hF⟩ := Zx hF
   obtain ⟨ZBG, ZHu, hF⟩ := bind_some hF
   refine zdn [0, 1, 2, 4, 6, 7] [[107, 108, 109, 111, 113, 114], [107, 108, 109, 111, 113, 114], [107, 109, 111, 113, 114], [107, 108, 109, 111, 113, 114], [107, 108, 109, 111, 113, 114], [107, 108, 109, 111, 114]] [3, 4] [2, 3, 4, 107, 108, 109, 111, 113, 114] [107, 108, 109, 111, 113, 114] [3, 5, 8, 9, 10] ?_
   refine zdp ?_
   refine ea (Zp (f := c_S)) (zsa (fun l => Zaf l (fun x => Zbb x)) ZFw ?_)
   refine ea (WE.refl _) ?_
   rw [← List.map_append]
   refine zsa (fun l => Zaf l (fun x => Zbb x)) ZzC ?_
   refine ea (WE.refl _) ?_
   rw [← List.map_append]
   refine zca [115] [] [] (Ze6 _ _ _ ZHu) ?_
   obtain rfl := Ze hF
   exact zre []
 ·intro lazycref36_expr_k1' Zi6 e local_ r hF
  unfold ZbT.M
  refine en Tryz.func124 ?_
  obtain ⟨r12, Zw2, hF⟩ := bind_some hF
  obtain ⟨c14, Zij, hF⟩ := bind_some hF
  obtain ⟨c17, Zfr, hF⟩ := bind_some hF
  obtain ⟨c21, Zje, hF⟩ := bind_some hF
  refine ns ?_
  refine sq (sq ?_)
  refine zck [2, 3, 4] [3, 4] [(44, .c none (.v (.bool c21)))] ?_ ?_
  ·refine zca [] [] [] (Zod Zw2) ?_
   refine zbf (fun Zou => ?_) (fun Zou => ?_)
   ·have Zij := ift Zou Zij
    obtain rfl := Ze Zij
    have Zfr := ift Zou Zfr
    obtain rfl := Ze Zfr
    have Zje := ift Zou Zje
    obtain rfl := Ze Zje
    refine zgo ?_
    exact zwe
   ·have Zij := ife Zou Zij
    obtain ⟨r13, Zw6, Zij⟩ := bind_some Zij
    refine zca [] [] [] (Zku Zw6) ?_
    obtain rfl := Ze Zij
    refine zbf (fun Zh4 => ?_) (fun Zh4 => ?_)
    ·have Zfr := ift (an Zou Zh4) Zfr
     obtain rfl := Ze Zfr
     have Zje := ift (an Zou Zh4) Zje
     obtain rfl := Ze Zje
     refine zgo ?_
     exact zwe
    ·have Zfr := ife (an Zou Zh4) Zfr
     obtain ⟨r15, Zw5, Zfr⟩ := bind_some Zfr
     obtain ⟨r16, Ztl, Zfr⟩ := bind_some Zfr
     refine zca [] [] [] (Zfk Zw5) ?_
     refine zca [25] [] [] (ZdD Ztl) ?_
     obtain rfl := Ze Zfr
     refine zbf (fun ZjD => ?_) (fun ZjD => ?_)
     ·have Zje := ift (an Zou (an Zh4 ZjD)) Zje
      obtain rfl := Ze Zje
      refine zgo ?_
      exact zwe
     ·have Zje := ife (an Zou (an Zh4 ZjD)) Zje
      obtain ⟨c20, ZmL, Zje⟩ := bind_some Zje
      refine zbt (fun Znk => ?_) (fun Znk => ?_)
      ·have ZmL := ift (an Zou (an Zh4 (an ZjD Znk))) ZmL
       obtain ⟨r19, ZJW, ZmL⟩ := bind_some ZmL
       refine zln fun hlen18 => ?_
       refine zca [] [] [] (Zik ZJW) ?_
       obtain rfl := Ze ZmL
       obtain rfl := Ze Zje
       refine zgo ?_
       exact zwe
      ·have ZmL := ife (an Zou (an Zh4 (an ZjD Znk))) ZmL
       obtain rfl := Ze ZmL
       obtain rfl := Ze Zje
       refine zgo ?_
       exact zwe
  refine zbr hF (fun ZmW hF => ?_) (fun ZmW hF => ?_)
  ·obtain rfl := Ze hF
   exact zre []
  ·obtain ⟨ZJA, hF⟩ := Zx hF
   obtain ⟨r31, ZII, hF⟩ := bind_some hF
   obtain ⟨ZJM, hF⟩ := Zx hF
   refine zdn [1, 3, 4] [[46, 48, 49], [46, 48, 49], [46, 49]] [4] [2, 4, 46, 48, 49] [46, 48, 49] [0, 2, 5, 6, 7] ?_
   refine zdp ?_
   refine ea (Zp (f := c_S)) (zsa (fun l => Zaf l (fun x => Zbb x)) ZJA ?_)
   refine ea (WE.refl _) ?_
   rw [← List.map_append]
   refine zca [] [] [] (Zfk ZII) ?_
   refine zsa (fun l => Zaf l (fun x => Zbb x)) ZJM ?_
   refine ea (WE.refl _) ?_
   rw [← List.map_append]
   refine zbr hF (fun ZFK hF => ?_) (fun ZFK hF => ?_)
   ·refine ns ?_
    exact zjr (rn [(51, 7)]) (Zi6 _ _ _ _ _ hF)
   ·refine nw ?_
    exact zjr (rn [(51, 7)]) (Zi6 _ _ _ _ _ hF)
 ·intro lazycref36_expr_l2' ZgD local_ r31 ZeR e r hF
  unfold ZbB.M nP
  exact znl (ZgD _ _ _ _ _ _ _ hF ([]) rfl rfl)
 ·intro lazycref36_binding' lazycref36_expr_l2' lazycref36_expr_l3' Zno ZgD Zgt local_ r31 ZeR i_9 e Zpo r hF
  unfold ZcG.M nL
  intro Zvf ZAD ZAy
  refine AWL.step ?_
  refine zln fun hlen81 => ?_
  refine zbl ZAD ZAy (fun x82 ZHL ZCH ZJ8 hl84 => ?_) (fun ZCH => ?_)
  ·subst ZCH
   obtain ⟨r86, ZDk, hF⟩ := bind_some hF
   refine zdo 7 [63, 64, 65, 66, 67, 68, 69] [127, 127, 125, 127, 113, 97, 127] ?_
   refine dp ?_
   refine dp ?_
   refine dp ?_
   refine dp ?_
   refine dr (Zr (Za.cells_eq x82) ZJ8) ?_
   refine zdp ?_
   refine zca [] [] [] (Zno _ _ _ ZDk) ?_
   refine zbr hF (fun ZDE hF => ?_) (fun ZDE hF => ?_)
   ·obtain rfl := Ze hF
    exact zre []
   ·exact znl (ZgD _ _ _ _ _ _ _ hF _ (zlh ZAD) (zlk ZAy))
  ·subst ZCH
   exact znl (Zgt _ _ _ _ _ _ hF ([]) rfl rfl hlen81)
 ·intro lazycref36_expr' lazycref36_expr_l3' lazycref36_expr_l4' Ze6 Zgt Zgu local_ r31 Znl e Zgf r hF
  unfold Zcj.M nL
  intro ZkB ZoG ZoK hlen81
  refine AWL.step ?_
  refine zln fun hlen135 => ?_
  refine zbl ZoG ZoK (fun ZEz ZCo ZAB ZHI hl138 => ?_) (fun ZAB => ?_)
  ·subst ZAB
   obtain ⟨ZyA, ZA9, hF⟩ := bind_some hF
   refine zdo 7 [79, 80, 81, 82, 83, 84, 85] [127, 127, 125, 127, 113, 97, 127] ?_
   refine dp ?_
   refine dp ?_
   refine dp ?_
   refine dp ?_
   refine dr (Zr (Zj.cells_eq ZEz) ZHI) ?_
   refine zdp ?_
   refine zca [7] [] [] (Ze6 _ _ _ ZA9) ?_
   refine zbr hF (fun ZzB hF => ?_) (fun ZzB hF => ?_)
   ·obtain rfl := Ze hF
    exact zre []
   ·exact znl (Zgt _ _ _ _ _ _ hF _ (zlh ZoG) (zlk ZoK) hlen81)
  ·subst ZAB
   exact znl (Zgu _ _ _ _ _ hF ([]) rfl rfl hlen81 hlen135)
 ·intro lazycref36_expr' lazycref36_expr_l4' Ze6 Zgu local_ Znp e Zgb r hF
  unfold Zcf.M nL
  intro ZkF ZpN Zp5 hlen81 hlen135
  refine AWL.step ?_
  refine zln fun hlen200 => ?_
  refine zbl ZpN Zp5 (fun Zt0 ZCg Zy2 ZHB hl203 => ?_) (fun Zy2 => ?_)
  ·subst Zy2
   refine zgo ?_
   refine sr (Zr (f := Zf.cells) (Zf.cells_eq Zt0) ZHB) ?_
   obtain ⟨c213, ZqU, hF⟩ := bind_some hF
   obtain ⟨c216, ZjA, hF⟩ := bind_some hF
   refine st ?_
   refine sq (sq ?_)
   refine zck [2, 3, 4, 11, 12] [3, 4, 12] [(123, .c none (.v (.bool c216)))] ?_ ?_
   ·refine zbt (fun Zuu => ?_) (fun Zuu => ?_)
    ·have ZqU := ift Zuu ZqU
     obtain ⟨Zyz, ZFy, ZqU⟩ := bind_some ZqU
     refine zln fun hlen211 => ?_
     refine zca [] [] [] (Zik ZFy) ?_
     obtain rfl := Ze ZqU
     refine zbf (fun Zzo => ?_) (fun Zzo => ?_)
     ·have ZjA := ift (an Zuu Zzo) ZjA
      obtain rfl := Ze ZjA
      refine zgo ?_
      exact zwe
     ·have ZjA := ife (an Zuu Zzo) ZjA
      obtain ⟨ZAz, ZjA⟩ := Zx ZjA
      obtain ⟨ZEg, ZAx, ZjA⟩ := bind_some ZjA
      refine zgo ?_
      refine ea (ZH (f := c_S) (lc Zn) (Zp (f := c_S))) (zsa (fun l => Zaf l (fun x => Zbb x)) ZAz ?_)
      refine ea (WE.refl _) ?_
      rw [← List.map_append]
      refine zca [120] [] [] (ZdD ZAx) ?_
      obtain rfl := Ze ZjA
      refine zgo ?_
      exact zwe
    ·have ZqU := ife Zuu ZqU
     obtain rfl := Ze ZqU
     have ZjA := ife Zuu ZjA
     refine zgo ?_
     obtain ⟨ZAz, ZjA⟩ := Zx ZjA
     obtain ⟨ZEg, ZAx, ZjA⟩ := bind_some ZjA
     refine zgo ?_
     refine ea (ZH (f := c_S) (lc Zn) (Zp (f := c_S))) (zsa (fun l => Zaf l (fun x => Zbb x)) ZAz ?_)
     refine ea (WE.refl _) ?_
     rw [← List.map_append]
     refine zca [120] [] [] (ZdD ZAx) ?_
     obtain rfl := Ze ZjA
     refine zgo ?_
     exact zwe
   refine zbr hF (fun ZFR hF => ?_) (fun ZFR hF => ?_)
   ·obtain rfl := Ze hF
    exact zre []
   ·obtain ⟨ZFo, hF⟩ := Zx hF
    obtain ⟨ZFO, hF⟩ := Zx hF
    obtain ⟨ZEM, hF⟩ := Zx hF
    obtain ⟨ZhM, ZA8, hF⟩ := bind_some hF
    refine zdn [0, 1, 2, 4, 6, 7, 8, 10, 11] [[124, 125, 126, 128, 130, 131, 132, 134, 135], [124, 125, 126, 128, 130, 131, 132, 134, 135], [124, 126, 128, 130, 131, 132, 134, 135], [124, 125, 126, 128, 130, 131, 132, 134, 135], [124, 125, 126, 128, 130, 131, 132, 134, 135], [124, 125, 126, 128, 131, 132, 134, 135], [124, 125, 126, 128, 132, 134, 135], [124, 125, 126, 128, 130, 131, 132, 134, 135], [124, 125, 126, 128, 130, 131, 132, 135]] [3, 12, 4] [2, 3, 4, 12, 124, 125, 126, 128, 130, 131, 132, 134, 135] [124, 125, 126, 128, 130, 131, 132, 134, 135] [3, 5, 9, 12, 13, 14] ?_
    refine dp ?_
    refine dp ?_
    refine dp ?_
    refine dp ?_
    refine dp ?_
    refine dp ?_
    refine de (ZH (f := c_S) (lc Zn) (Zp (f := c_S))) ?_
    refine zdp ?_
    refine ea (Zp (f := c_S)) (zsa (fun l => Zaf l (fun x => Zbb x)) ZFo ?_)
    refine ea (WE.refl _) ?_
    rw [← List.map_append]
    refine zsa (fun l => Zaf l (fun x => Zbb x)) ZFO ?_
    refine ea (WE.refl _) ?_
    rw [← List.map_append]
    refine zsa (fun l => Zaf l (fun x => Zbb x)) ZEM ?_
    refine ea (WE.refl _) ?_
    rw [← List.map_append]
    refine zca [136] [] [] (Ze6 _ _ _ ZA8) ?_
    refine zbr hF (fun ZFz hF => ?_) (fun ZFz hF => ?_)
    ·obtain rfl := Ze hF
     exact zre []
    ·exact znl (Zgu _ _ _ _ _ hF _ (zlh ZpN) (zlk Zp5) hlen81 hlen135)
  ·subst Zy2
   obtain rfl := Ze hF
   exact zre []
theorem Znt {p b local_ r} (h : ZaW p b local_ = some r) : ZaW.M p b local_ r := (Zmx p).1 _ _ _ h

def Zba (l : (List ByteArray)) (s : ByteArray) (i_5 : Nat) (Zab : (List ByteArray)) : Option (Bool) :=
 (match Zab with
 | x16 :: Zwl =>
 if (x16.toList == s.toList) = true then
 some true
 else
 Zba l s (i_5 + 1) Zwl
 | [] =>
 some false)
 partial_fixpoint
def Zba.M (l : (List ByteArray)) (s : ByteArray) (i_5 : Nat) (Zab : (List ByteArray)) (r : Bool) : Prop :=
 ∀ ZcC : List ByteArray, l = ZcC ++ Zab → i_5 = ZcC.length → nL 18 Tryz.f53 [1, 0, 1, 0] (.c none (.v (.bool r))) [] ⟨[(0, .c none (.sl (l.map c_S))), (1, .c none (.v (.string s))), (5, .c none (.v (.int .i64 ((i_5 : Nat) : Int))))], []⟩
theorem ZlP (l : (List ByteArray)) (s : ByteArray) : ∀ i_5 Zab r, Zba l s i_5 Zab = some r → Zba.M l s i_5 Zab r := by
 refine Zba.partial_correctness l s (Zba.M l s) ?_
 intro lazyclaw36_bound_l1' ZmA i_5 Zab r hF
 unfold Zba.M nL
 intro ZcC ZeE ZeB
 refine AWL.step ?_
 refine zln fun hlen15 => ?_
 refine zbl ZeE ZeB (fun x16 Zwl Ztv ZzG ZER => ?_) (fun Ztv => ?_)
 ·subst Ztv
  refine zsr (Zr (f := c_S) rfl ZzG) ?_
  refine zbr hF (fun ZqH hF => ?_) (fun ZqH hF => ?_)
  ·obtain rfl := Ze hF
   exact zre []
  ·exact znl (ZmA _ _ _ hF _ (zlh ZeE) (zlk ZeB))
 ·subst Ztv
  obtain rfl := Ze hF
  exact zre []
theorem Zmp {l s i_5 Zab r} (h : Zba l s i_5 Zab = some r) : Zba.M l s i_5 Zab r := (ZlP l s) _ _ _ h

def Zd9 (l : (List ByteArray)) (s : ByteArray) : Option (Bool) :=
 Zba l s 0 l
def Zd9.M (l : (List ByteArray)) (s : ByteArray) (r : Bool) : Prop :=
 Zq Tryz.prog 53 [.c none (.sl (l.map c_S)), .c none (.v (.string s))] [] (fun d b => d = .c none (.v (.bool r)) ∧ b = [])
theorem Zo2 {l s r} (hF : Zd9 l s = some r) : Zd9.M l s r := by
 unfold Zd9 at hF
 unfold Zd9.M
 refine en Tryz.func53 ?_
 exact znl (Zmp hF ([]) rfl rfl)

mutual
def ZaY (l : (List ByteArray)) (all : (List ByteArray)) (Zj3 : Nat) (i_6 : Nat) : Option (Bool) :=
 if (decide (((i_6 : Nat) : Int) < ((l.length : Nat) : Int))) = true then
 Zcb l all Zj3 i_6
 else
 some true
 partial_fixpoint
def Zcb (l : (List ByteArray)) (all : (List ByteArray)) (Zj3 : Nat) (i_6 : Nat) : Option (Bool) :=
 (if (decide (((Zj3 : Nat) : Int) < ((all.length : Nat) : Int))) = true then (all[Zj3]?) >>= fun ZHe =>
 (l[i_6]?) >>= fun ZFU =>
 some (!(ZHe.toList == ZFU.toList)) else some false) >>= fun c456 =>
 if c456 = true then
 ZaK (Zj3 + 1 ≤ 9223372036854775807) >>= fun _ =>
 Zcb l all (Zj3 + 1) i_6
 else
 if (((Zj3 : Nat) : Int) == ((all.length : Nat) : Int)) = true then
 some false
 else
 ZaK (Zj3 + 1 ≤ 9223372036854775807) >>= fun _ =>
 ZaY l all (Zj3 + 1) (i_6 + 1)
 partial_fixpoint
end
def ZaY.M (l : (List ByteArray)) (all : (List ByteArray)) (Zj3 : Nat) (i_6 : Nat) (r : Bool) : Prop :=
 nL 36 Tryz.f54 [1, 1, 0, 1, 0] (.c none (.v (.bool r))) [] ⟨[(0, .c none (.sl (l.map c_S))), (1, .c none (.sl (all.map c_S))), (5, .c none (.v (.int .i64 ((Zj3 : Nat) : Int)))), (6, .c none (.v (.int .i64 ((i_6 : Nat) : Int))))], []⟩
def Zcb.M (l : (List ByteArray)) (all : (List ByteArray)) (Zj3 : Nat) (i_6 : Nat) (r : Bool) : Prop :=
 l.length ≤ maxLen → i_6 < l.length → nL 36 Tryz.f54 [1, 1, 0, 1, 0, 0, 1, 0, 0, 0, 0] (.c none (.v (.bool r))) [] ⟨[(0, .c none (.sl (l.map c_S))), (1, .c none (.sl (all.map c_S))), (5, .c none (.v (.int .i64 ((Zj3 : Nat) : Int)))), (6, .c none (.v (.int .i64 ((i_6 : Nat) : Int))))], []⟩
theorem Zlr (l : (List ByteArray)) (all : (List ByteArray)) : (∀ Zj3 i_6 r, ZaY l all Zj3 i_6 = some r → ZaY.M l all Zj3 i_6 r) ∧ (∀ Zj3 i_6 r, Zcb l all Zj3 i_6 = some r → Zcb.M l all Zj3 i_6 r) := by
 refine ZaY.mutual_partial_correctness l all (ZaY.M l all) (Zcb.M l all) ?_ ?_
 ·intro lazyclaw36_listed_l2' ZfX Zj3 i_6 r hF
  unfold ZaY.M nL
  refine AWL.step ?_
  refine zln fun hlen397 => ?_
  refine zbr hF (fun ZCB hF => ?_) (fun ZCB hF => ?_)
  ·have ZxJ := Zj7 ZCB
   exact znl (ZfX _ _ _ hF hlen397 ZxJ)
  ·obtain rfl := Ze hF
   exact zre []
 ·intro lazyclaw36_listed_l1' lazyclaw36_listed_l2' Zl0 ZfX Zj3 i_6 r hF
  unfold Zcb.M nL
  intro hlen397 ZxJ
  refine AWL.step ?_
  obtain ⟨c456, Zo5, hF⟩ := bind_some hF
  refine sq (sq ?_)
  refine zck [0, 1, 5, 6] [] [(27, .c none (.v (.bool c456)))] ?_ ?_
  ·refine zdo 13 [13, 14, 15, 16, 17, 18, 19, 20, 21, 22, 23, 24, 25] [8191, 8191, 8189, 8184, 8176, 8160, 8160, 8064, 7936, 8160, 8160, 6624, 4576] ?_
   refine dp ?_
   refine dp ?_
   refine dl ?_
   refine zdp ?_
   refine zbt (fun ZAl => ?_) (fun ZAl => ?_)
   ·have Zo5 := ift ZAl Zo5
    obtain ⟨ZHe, ZH8, Zo5⟩ := bind_some Zo5
    obtain ⟨ZFU, ZG8, Zo5⟩ := bind_some Zo5
    refine zgo ?_
    refine dp ?_
    refine dp ?_
    refine dr (Zr rfl ZH8) ?_
    refine dp ?_
    refine dp ?_
    refine dp ?_
    refine dr (Zr rfl ZG8) ?_
    refine dp ?_
    obtain rfl := Ze Zo5
    refine zgo ?_
    exact zwe
   ·have Zo5 := ife ZAl Zo5
    obtain rfl := Ze Zo5
    refine zgo ?_
    exact zwe
  refine zbr hF (fun ZGz hF => ?_) (fun ZGz hF => ?_)
  ·obtain ⟨ZE7, hF⟩ := Zx hF
   refine zgo ?_
   exact lv (rn []) (ZfX _ _ _ hF hlen397 ZxJ) (WS.mk (tc (tc (ZcI (Zc7 (ZeC (Zn8 ZE7))) (tc ZcZ)))) Zc6)
  ·refine zln fun hlen460 => ?_
   refine zbr hF (fun ZG2 hF => ?_) (fun ZG2 hF => ?_)
   ·obtain rfl := Ze hF
    exact zre []
   ·obtain ⟨ZEX, hF⟩ := Zx hF
    refine zgo ?_
    exact lv (rn []) (Zl0 _ _ _ hF) (WS.mk (tc (tc (ZcI (Zc7 (ZeC (Zn8 ZEX))) (ZcI (Zc7 (ZeC (ZcJ hlen397 ZxJ))) ZcZ)))) Zc6)
theorem ZlM {l all Zj3 i_6 r} (h : ZaY l all Zj3 i_6 = some r) : ZaY.M l all Zj3 i_6 r := (Zlr l all).1 _ _ _ h

def ZdL (l : (List ByteArray)) (all : (List ByteArray)) : Option (Bool) :=
 ZaY l all 0 0
def ZdL.M (l : (List ByteArray)) (all : (List ByteArray)) (r : Bool) : Prop :=
 Zq Tryz.prog 54 [.c none (.sl (l.map c_S)), .c none (.sl (all.map c_S))] [] (fun d b => d = .c none (.v (.bool r)) ∧ b = [])
theorem ZnH {l all r} (hF : ZdL l all = some r) : ZdL.M l all r := by
 unfold ZdL at hF
 unfold ZdL.M
 refine en Tryz.func54 ?_
 exact znl (ZlM hF)

mutual
def Z9 (e : Zj) : Option (Bool) :=
 Zb2 0 e
 partial_fixpoint
def Zb2 (i_3 : Nat) (e : Zj) : Option (Bool) :=
 if (decide (((i_3 : Nat) : Int) < ((e.fBinds.length : Nat) : Int))) = true then
 (e.fBinds[i_3]?) >>= fun ZnT =>
 Zco i_3 0 e ZnT ZnT.fFree
 else
 Zcn 0 e e.fKids
 partial_fixpoint
def Zcn (i_6 : Nat) (e : Zj) (ZcK : (List Zj)) : Option (Bool) :=
 (match ZcK with
 | ZD4 :: ZCw =>
 Z9 ZD4 >>= fun ZIc =>
 if (!ZIc) = true then
 some false
 else
 Zcn (i_6 + 1) e ZCw
 | [] =>
 Zcp 0 e e.fAlts)
 partial_fixpoint
def Zcp (i_7 : Nat) (e : Zj) (Zfd : (List Zf)) : Option (Bool) :=
 (match Zfd with
 | ZDb :: ZCs =>
 Z9 ZDb.fBody >>= fun ZFk =>
 if (!ZFk) = true then
 some false
 else
 Zcp (i_7 + 1) e ZCs
 | [] =>
 some true)
 partial_fixpoint
def Zco (i_3 : Nat) (k_5 : Nat) (e : Zj) (ZnT : Za) (Zpr : (List ByteArray)) : Option (Bool) :=
 (match Zpr with
 | ZHH :: ZCD =>
 Zd9 ZnT.fParams ZHH >>= fun ZHl =>
 if ZHl = true then
 some false
 else
 Zco i_3 (k_5 + 1) e ZnT ZCD
 | [] =>
 ZfE ZnT.fBody >>= fun ZFp =>
 ZdL ZnT.fFree ZFp >>= fun ZFt =>
 (if (!ZFt) = true then some true else Z9 ZnT.fBody >>= fun ZGV =>
 some (!ZGV)) >>= fun c817 =>
 if c817 = true then
 some false
 else
 Zb2 (i_3 + 1) e)
 partial_fixpoint
end
def Z9.M (e : Zj) (r : Bool) : Prop :=
 Zq Tryz.prog 23 [.agg (Zj.fl e)] [] (fun d b => d = .c none (.v (.bool r)) ∧ b = [])
def Zb2.M (i_3 : Nat) (e : Zj) (r : Bool) : Prop :=
 nL 77 Tryz.f23 [1, 0, 1, 0] (.c none (.v (.bool r))) [] ⟨[(1, .ptr 1 0), (3, .c none (.v (.int .i64 ((i_3 : Nat) : Int))))], [(1, (Zj.bx e))]⟩
def Zcn.M (i_6 : Nat) (e : Zj) (ZcK : (List Zj)) (r : Bool) : Prop :=
 ∀ ZeX : List Zj, e.fKids = ZeX ++ ZcK → i_6 = ZeX.length → e.fBinds.length ≤ maxLen → nL 77 Tryz.f23 [1, 1, 0, 1, 0] (.c none (.v (.bool r))) [] ⟨[(1, .ptr 1 0), (6, .c none (.v (.int .i64 ((i_6 : Nat) : Int))))], [(1, (Zj.bx e))]⟩
def Zcp.M (i_7 : Nat) (e : Zj) (Zfd : (List Zf)) (r : Bool) : Prop :=
 ∀ ZiA : List Zf, e.fAlts = ZiA ++ Zfd → i_7 = ZiA.length → e.fBinds.length ≤ maxLen → e.fKids.length ≤ maxLen → nL 77 Tryz.f23 [1, 1, 1, 0, 1, 0] (.c none (.v (.bool r))) [] ⟨[(1, .ptr 1 0), (7, .c none (.v (.int .i64 ((i_7 : Nat) : Int))))], [(1, (Zj.bx e))]⟩
def Zco.M (i_3 : Nat) (k_5 : Nat) (e : Zj) (ZnT : Za) (Zpr : (List ByteArray)) (r : Bool) : Prop :=
 ∀ Zvd : List ByteArray, ZnT.fFree = Zvd ++ Zpr → k_5 = Zvd.length → e.fBinds.length ≤ maxLen → i_3 < e.fBinds.length → nL 77 Tryz.f23 [1, 0, 1, 0, 0, 1, 0, 0, 1, 0, 1, 0] (.c none (.v (.bool r))) [] ⟨[(1, .ptr 1 0), (3, .c none (.v (.int .i64 ((i_3 : Nat) : Int)))), (4, .ptr 4 0), (5, .c none (.v (.int .i64 ((k_5 : Nat) : Int))))], [(1, (Zj.bx e)), (4, (Za.bx ZnT))]⟩
theorem Zn9 : (∀ e r, Z9 e = some r → Z9.M e r) ∧ (∀ i_3 e r, Zb2 i_3 e = some r → Zb2.M i_3 e r) ∧ (∀ i_6 e ZcK r, Zcn i_6 e ZcK = some r → Zcn.M i_6 e ZcK r) ∧ (∀ i_7 e Zfd r, Zcp i_7 e Zfd = some r → Zcp.M i_7 e Zfd r) ∧ (∀ i_3 k_5 e ZnT Zpr r, Zco i_3 k_5 e ZnT Zpr = some r → Zco.M i_3 k_5 e ZnT Zpr r) := by
 refine Z9.mutual_partial_correctness Z9.M Zb2.M Zcn.M Zcp.M Zco.M ?_ ?_ ?_ ?_ ?_
 ·intro lazyclaw36_lists_l1' Zf5 e r hF
  unfold Z9.M
  refine en Tryz.func23 ?_
  exact znl (Zf5 _ _ _ hF)
 ·intro lazyclaw36_lists_l3' lazyclaw36_lists_l2' Zf7 Zga i_3 e r hF
  unfold Zb2.M nL
  refine AWL.step ?_
  refine zln fun hlen753 => ?_
  refine zbr hF (fun ZCz hF => ?_) (fun ZCz hF => ?_)
  ·have Zy9 := Zj7 ZCz
   obtain ⟨ZnT, ZGA, hF⟩ := bind_some hF
   refine zsr (Zr (f := Za.cells) (Za.cells_eq ZnT) ZGA) ?_
   exact znl (Zga _ _ _ _ _ _ hF ([]) rfl rfl hlen753 Zy9)
  ·exact znl (Zf7 _ _ _ _ hF ([]) rfl rfl hlen753)
 ·intro lazyclaw36_lists' lazyclaw36_lists_l3' lazyclaw36_lists_l4' ZeO Zf7 Zf8 i_6 e ZcK r hF
  unfold Zcn.M nL
  intro ZeX ZiR ZiK hlen753
  refine AWL.step ?_
  refine zln fun hlen857 => ?_
  refine zbl ZiR ZiK (fun ZD4 ZCw Zz2 ZFN hl860 => ?_) (fun Zz2 => ?_)
  ·subst Zz2
   obtain ⟨ZIc, ZF2, hF⟩ := bind_some hF
   refine zsr (Zr (f := Zj.cells) (Zj.cells_eq ZD4) ZFN) ?_
   refine zca [] [] [] (ZeO _ _ ZF2) ?_
   refine zbr hF (fun ZIf hF => ?_) (fun ZIf hF => ?_)
   ·obtain rfl := Ze hF
    exact zre []
   ·exact znl (Zf7 _ _ _ _ hF _ (zlh ZiR) (zlk ZiK) hlen753)
  ·subst Zz2
   exact znl (Zf8 _ _ _ _ hF ([]) rfl rfl hlen753 hlen857)
 ·intro lazyclaw36_lists' lazyclaw36_lists_l4' ZeO Zf8 i_7 e Zfd r hF
  unfold Zcp.M nL
  intro ZiA ZnI ZnL hlen753 hlen857
  refine AWL.step ?_
  refine zln fun hlen879 => ?_
  refine zbl ZnI ZnL (fun ZDb ZCs ZAO ZGX hl882 => ?_) (fun ZAO => ?_)
  ·subst ZAO
   obtain ⟨ZFk, ZE0, hF⟩ := bind_some hF
   refine zsr (Zr (f := Zf.cells) (Zf.cells_eq ZDb) ZGX) ?_
   refine zca [] [] [] (ZeO _ _ ZE0) ?_
   refine zbr hF (fun ZF6 hF => ?_) (fun ZF6 hF => ?_)
   ·obtain rfl := Ze hF
    exact zre []
   ·exact znl (Zf8 _ _ _ _ hF _ (zlh ZnI) (zlk ZnL) hlen753 hlen857)
  ·subst ZAO
   obtain rfl := Ze hF
   exact zre []
 ·intro lazyclaw36_lists' lazyclaw36_lists_l1' lazyclaw36_lists_l2' ZeO Zf5 Zga i_3 k_5 e ZnT Zpr r hF
  unfold Zco.M nL
  intro Zvd ZAG ZBj hlen753 Zy9
  refine AWL.step ?_
  refine zln fun hlen803 => ?_
  refine zbl ZAG ZBj (fun ZHH ZCD ZAE ZFF hl806 => ?_) (fun ZAE => ?_)
  ·subst ZAE
   obtain ⟨ZHl, ZGd, hF⟩ := bind_some hF
   refine zdo 7 [27, 28, 29, 30, 31, 32, 33] [127, 126, 127, 123, 127, 99, 67] ?_
   refine dp ?_
   refine dp ?_
   refine dp ?_
   refine dp ?_
   refine dp ?_
   refine dr (Zr rfl ZFF) ?_
   refine zdp ?_
   refine zca [] [] [] (Zo2 ZGd) ?_
   refine zbr hF (fun ZId hF => ?_) (fun ZId hF => ?_)
   ·obtain rfl := Ze hF
    exact zre []
   ·exact znl (Zga _ _ _ _ _ _ hF _ (zlh ZAG) (zlk ZBj) hlen753 Zy9)
  ·subst ZAE
   obtain ⟨ZFp, ZFL, hF⟩ := bind_some hF
   obtain ⟨ZFt, ZEW, hF⟩ := bind_some hF
   obtain ⟨c817, ZqP, hF⟩ := bind_some hF
   refine nw ?_
   refine sq ?_
   refine zck [1, 3] [1] [(47, .c none (.v (.bool c817)))] ?_ ?_
   ·refine zdn [0, 1] [[35, 36], [36]] [4] [4, 35, 36] [35, 36] [2, 3, 4, 5, 6, 7, 8, 9, 10, 11, 12] ?_
    refine zdp ?_
    refine zca [] [] [] (Zra ZFL) ?_
    refine zca [39] [] [] (ZnH ZEW) ?_
    refine zbf (fun Zz5 => ?_) (fun Zz5 => ?_)
    ·have ZqP := ift Zz5 ZqP
     obtain rfl := Ze ZqP
     refine zgo ?_
     exact zwe
    ·have ZqP := ife Zz5 ZqP
     obtain ⟨ZGV, ZGE, ZqP⟩ := bind_some ZqP
     refine zca [] [] [] (ZeO _ _ ZGE) ?_
     obtain rfl := Ze ZqP
     refine zgo ?_
     exact zwe
   refine zbr hF (fun ZGh hF => ?_) (fun ZGh hF => ?_)
   ·obtain rfl := Ze hF
    exact zre []
   ·exact znl (Zf5 _ _ _ hF)
theorem ZoU {e r} (h : Z9 e = some r) : Z9.M e r := Zn9.1 _ _ h

def Zb7 (p : Zi) (Zor : Nat) (ZeV : (List (ByteArray × Int))) (Zfu : (List (ByteArray × Int))) (Zfg : Bool) (ZhR : (List Za)) : Option (Int) :=
 (match ZhR with
 | ZBR :: ZCi =>
 Zy (Zb.mk ZeV Zfu Zfg) (((ZBR.fFree.length : Nat) : Int) == 0) >>= fun ZyF =>
 ZaP ZyF ZBR true >>= fun ZBT =>
 Zb7 p (Zor + 1) ZBT.fcons ZBT.flocal ZBT.fbad ZCi
 | [] =>
 if Zfg = true then
 some 1
 else
 some 0)
 partial_fixpoint
def Zb7.M (p : Zi) (Zor : Nat) (ZeV : (List (ByteArray × Int))) (Zfu : (List (ByteArray × Int))) (Zfg : Bool) (ZhR : (List Za)) (r : Int) : Prop :=
 ∀ Zqi : List Za, p.fBinds = Zqi ++ ZhR → Zor = Zqi.length → p.fBinds.length ≤ maxLen → p.fCons.length ≤ maxLen → nL 120 Tryz.f22 [1, 1, 1, 1, 1, 1, 1, 0, 1, 0] (.c none (.v (.int .i64 r))) [] ⟨[(6, .ptr 47 0), (100, .c none (.sl (p.fBinds.map Za.cells))), (101, .c none (.v (.int .i64 ((p.fBinds.length : Nat) : Int)))), (102, .c none (.v (.int .i64 ((Zor : Nat) : Int))))], [(44, [(none, .ob 165 (ZeV.map (Zv c_S Zg)))]), (45, [(none, .ob 167 (Zfu.map (Zv c_S Zg)))]), (47, [(none, .rf 44), (none, .rf 45), (none, .v (.bool Zfg))])]⟩
theorem Zqm (p : Zi) : ∀ Zor ZeV Zfu Zfg ZhR r, Zb7 p Zor ZeV Zfu Zfg ZhR = some r → Zb7.M p Zor ZeV Zfu Zfg ZhR r := by
 refine Zb7.partial_correctness p (Zb7.M p) ?_
 intro stg_Check_l3' Zrr Zor ZeV Zfu Zfg ZhR r hF
 unfold Zb7.M nL
 intro Zqi Zwm ZvR hlen130 hlen82
 refine AWL.step ?_
 refine zbl Zwm ZvR (fun ZBR ZCi ZAS ZAs hl146 => ?_) (fun ZAS => ?_)
 ·subst ZAS
  refine zsr (Zr (f := Za.cells) (Za.cells_eq ZBR) ZAs) ?_
  obtain ⟨ZyF, Zy5, hF⟩ := bind_some hF
  refine zln fun hlen147 => ?_
  refine zca [] [(47, 1000), (44, 1001), (45, 1002)] [] (Z6 Zy5) ?_
  obtain ⟨ZBT, ZG3, hF⟩ := bind_some hF
  refine zca [] [(47, 1000), (44, 1001), (45, 1002)] [] (ZoT ZG3) ?_
  exact znl (Zrr _ _ _ _ _ _ hF _ (zlh Zwm) (zlk ZvR) hlen130 hlen82)
 ·subst ZAS
  refine zbr hF (fun ZFu hF => ?_) (fun ZFu hF => ?_)
  ·obtain rfl := Ze hF
   exact zre []
  ·obtain rfl := Ze hF
   exact zre []
theorem Zrg {p Zor ZeV Zfu Zfg ZhR r} (h : Zb7 p Zor ZeV Zfu Zfg ZhR = some r) : Zb7.M p Zor ZeV Zfu Zfg ZhR r := (Zqm p) _ _ _ _ _ _ h

def ZbP (p : Zi) (ZrG : Nat) (ZeV : (List (ByteArray × Int))) (Zfu : (List (ByteArray × Int))) (Zfg : Bool) (Zjs : (List Zk)) : Option (Int) :=
 (match Zjs with
 | x98 :: ZGI =>
 ZbW ZeV 0 x98.fName >>= fun ZB4 =>
 Zei x98.fName >>= fun ZBt =>
 Zy (Zb.mk ZeV Zfu Zfg) (((ZBt && (!ZB4.2)) && (decide (x98.fTag ≥ 0))) && (decide (x98.fArity ≥ 0))) >>= fun ZrB =>
 ZbP p (ZrG + 1) (Ze0 ZrB.fcons x98.fName x98.fArity) ZrB.flocal ZrB.fbad ZGI
 | [] =>
 Zfw p.fBinds >>= fun ZGv =>
 ZdB ZGv >>= fun ZHf =>
 Zy (Zb.mk ZeV Zfu Zfg) ZHf >>= fun ZwV =>
 Zb7 p 0 ZwV.fcons ZwV.flocal ZwV.fbad p.fBinds)
 partial_fixpoint
def ZbP.M (p : Zi) (ZrG : Nat) (ZeV : (List (ByteArray × Int))) (Zfu : (List (ByteArray × Int))) (Zfg : Bool) (Zjs : (List Zk)) (r : Int) : Prop :=
 ∀ Ztw : List Zk, p.fCons = Ztw ++ Zjs → ZrG = Ztw.length → p.fBinds.length ≤ maxLen → p.fCons.length ≤ maxLen → nL 120 Tryz.f22 [1, 1, 1, 1, 1, 0, 1, 0] (.c none (.v (.int .i64 r))) [] ⟨[(1, .ptr 1 0), (6, .ptr 47 0), (49, .c none (.sl (p.fCons.map Zk.cells))), (50, .c none (.v (.int .i64 ((p.fCons.length : Nat) : Int)))), (51, .c none (.v (.int .i64 ((ZrG : Nat) : Int))))], [(1, [(none, .sl (p.fCons.map Zk.cells)), (none, .sl (p.fBinds.map Za.cells))]), (44, [(none, .ob 165 (ZeV.map (Zv c_S Zg)))]), (45, [(none, .ob 167 (Zfu.map (Zv c_S Zg)))]), (47, [(none, .rf 44), (none, .rf 45), (none, .v (.bool Zfg))])]⟩
theorem Zqw (p : Zi) : ∀ ZrG ZeV Zfu Zfg Zjs r, ZbP p ZrG ZeV Zfu Zfg Zjs = some r → ZbP.M p ZrG ZeV Zfu Zfg Zjs r := by
 refine ZbP.partial_correctness p (ZbP.M p) ?_
 intro stg_Check_l2' Zrh ZrG ZeV Zfu Zfg Zjs r hF
 unfold ZbP.M nL
 intro Ztw ZxC ZxN hlen26 hlen82
 refine AWL.step ?_
 refine zbl ZxC ZxN (fun x98 ZGI Zz1 ZFq hl100 => ?_) (fun Zz1 => ?_)
 ·subst Zz1
  refine zsr (Zr (f := Zk.cells) (Zk.cells_eq x98) ZFq) ?_
  obtain ⟨ZB4, ZEI, hF⟩ := bind_some hF
  refine zdo 11 [56, 57, 58, 59, 60, 61, 62, 55, 63, 64, 9] [2047, 2046, 2044, 2040, 2047, 2031, 1984, 1920, 1792, 1792, 1536] ?_
  refine dp ?_
  refine dp ?_
  refine dp ?_
  refine dp ?_
  refine dp ?_
  refine dp ?_
  (refine st ?_; apply Exists.intro; apply Exists.intro; apply an; (focus (((repeat (first | ((conv => whnf); (with_reducible refine an ?_ ?_); (focus (first | exact Eq.refl _ | exact trivial | (with_reducible assumption) | (with_reducible exact Int.natCast_nonneg _) | exact Nat.le_of_ble_eq_true (Eq.refl true) | exact ZcL (Eq.refl _) (Eq.refl _) (Eq.refl _) | decide))))); (conv => whnf)) <;> (refine Zcr (m := ZeV) (k := x98.fName) ZaN (ev := Zg) ZEI rfl (fun x => Zbl x) rfl rfl (lc Zn) ?_) <;> ((repeat (first | ((conv => whnf); (with_reducible refine an ?_ ?_); (focus (first | exact Eq.refl _ | exact trivial | (with_reducible assumption) | (with_reducible exact Int.natCast_nonneg _) | exact Nat.le_of_ble_eq_true (Eq.refl true) | exact ZcL (Eq.refl _) (Eq.refl _) (Eq.refl _) | decide))))); (conv => whnf)) <;> (exact rfl))); apply an; (focus exact rfl); (conv => whnf))
  refine dp ?_
  refine dp ?_
  refine dp ?_
  refine dp ?_
  obtain ⟨ZBt, ZEH, hF⟩ := bind_some hF
  obtain ⟨ZrB, Zxp, hF⟩ := bind_some hF
  refine st ?_
  refine sq ?_
  refine zcw ⟨[(1, .ptr 1 0), (6, .ptr 47 0), (8, .ptr 8 0), (49, .c none (.sl (p.fCons.map Zk.cells))), (50, .c none (.v (.int .i64 ((p.fCons.length : Nat) : Int)))), (51, .c none (.v (.int .i64 ((ZrG : Nat) : Int))))], [(1, [(none, .sl (p.fCons.map Zk.cells)), (none, .sl (p.fBinds.map Za.cells))]), (8, (Zk.bx x98)), (44, [(none, .ob 165 (ZrB.fcons.map (Zv c_S Zg)))]), (45, [(none, .ob 167 (ZrB.flocal.map (Zv c_S Zg)))]), (47, [(none, .rf 44), (none, .rf 45), (none, .v (.bool ZrB.fbad))])]⟩ ?_ ?_
  ·refine zca [] [] [] (Zhh ZEH) ?_
   refine zbt (fun Zi7 => ?_) (fun Zi7 => ?_)
   ·refine zbt (fun ZtM => ?_) (fun ZtM => ?_)
    ·refine zbt (fun Zwt => ?_) (fun Zwt => ?_)
     ·refine zgo ?_
      refine xe3 [] [(47, 1000), (44, 1001), (45, 1002)] [] (st ?_)
      refine cm (Zq.weak (rn []) (Z6 Zxp) rfl (WS.mk (tp (ZcI (Zc7 (web (an Zi7 (an ZtM Zwt)))) ZcZ)) (ZcN rfl (cc (cc (Zf2 (web (an Zi7 (an ZtM Zwt))) ZcA))) (ZcN rfl (cc ZcA) (ZcN rfl (cc ZcA) Zc6))))) (zgo ?_)
      exact zwy
     ·refine zgo ?_
      refine xe3 [] [(47, 1000), (44, 1001), (45, 1002)] [] (st ?_)
      refine cm (Zq.weak (rn []) (Z6 Zxp) rfl (WS.mk (tp (ZcI (Zc7 (web (an Zi7 (an ZtM Zwt)))) ZcZ)) (ZcN rfl (cc (cc (Zf2 (web (an Zi7 (an ZtM Zwt))) ZcA))) (ZcN rfl (cc ZcA) (ZcN rfl (cc ZcA) Zc6))))) (zgo ?_)
      exact zwy
    ·refine zgo ?_
     refine xe3 [] [(47, 1000), (44, 1001), (45, 1002)] [] (st ?_)
     refine cm (Zq.weak (rn []) (Z6 Zxp) rfl (WS.mk (tp (ZcI (Zc7 (web (an Zi7 ZtM))) ZcZ)) (ZcN rfl (cc (cc (Zf2 (web (an Zi7 ZtM)) ZcA))) (ZcN rfl (cc ZcA) (ZcN rfl (cc ZcA) Zc6))))) (zgo ?_)
     exact zwy
   ·refine zgo ?_
    refine xe3 [] [(47, 1000), (44, 1001), (45, 1002)] [] (st ?_)
    refine cm (Zq.weak (rn []) (Z6 Zxp) rfl (WS.mk (tp (ZcI (Zc7 (web Zi7)) ZcZ)) (ZcN rfl (cc (cc (Zf2 (web Zi7) ZcA))) (ZcN rfl (cc ZcA) (ZcN rfl (cc ZcA) Zc6))))) (zgo ?_)
    exact zwy
  refine zdo 8 [84, 85, 86, 87, 88, 89, 90, 91] [255, 254, 252, 248, 255, 239, 255, 191] ?_
  refine zdp ?_
  exact ZdG (m := ZrB.fcons) (k := x98.fName) (v := x98.fArity) ZaN (ev := Zg) (lc Zn) (znl (Zrh _ _ _ _ _ _ hF _ (zlh ZxC) (zlk ZxN) hlen26 hlen82))
 ·subst Zz1
  obtain ⟨ZGv, ZFJ, hF⟩ := bind_some hF
  obtain ⟨ZHf, ZHo, hF⟩ := bind_some hF
  obtain ⟨ZwV, Zz9, hF⟩ := bind_some hF
  refine zca [] [] [] (ZmK ZFJ) ?_
  refine zca [96] [] [] (Zhv ZHo) ?_
  refine zca [] [(47, 1000), (44, 1001), (45, 1002)] [] (Z6 Zz9) ?_
  refine zln fun hlen130 => ?_
  exact znl (Zrg hF ([]) rfl rfl hlen130 hlen82)
theorem Zrp {p ZrG ZeV Zfu Zfg Zjs r} (h : ZbP p ZrG ZeV Zfu Zfg Zjs = some r) : ZbP.M p ZrG ZeV Zfu Zfg Zjs r := (Zqw p) _ _ _ _ _ _ h

mutual
def Zay (e : Zj) : Option (Int) :=
 Zc8 0 e 0 e.fKids
 partial_fixpoint
def Zc8 (n_3 : Int) (e : Zj) (ZcO : Nat) (ZbY : (List Zj)) : Option (Int) :=
 (match ZbY with
 | x24 :: Zhi =>
 Zay x24 >>= fun r27 =>
 Zc8 (if r27 > n_3 then r27 else n_3) e (ZcO + 1) Zhi
 | [] =>
 ZcU n_3 e 0 e.fBinds)
 partial_fixpoint
def ZcU (n_3 : Int) (e : Zj) (ZaL : Nat) (Zu : (List Za)) : Option (Int) :=
 (match Zu with
 | x51 :: ZFb =>
 Zay x51.fBody >>= fun r54 =>
 ZcU (if r54 > n_3 then r54 else n_3) e (ZaL + 1) ZFb
 | [] =>
 ZcR n_3 e 0 e.fAlts)
 partial_fixpoint
def ZcR (n_3 : Int) (e : Zj) (Zwg : Nat) (Zne : (List Zf)) : Option (Int) :=
 (match Zne with
 | x65 :: ZvS =>
 Zay x65.fBody >>= fun r68 =>
 ZcR (if r68 > n_3 then r68 else n_3) e (Zwg + 1) ZvS
 | [] =>
 some (IntKind.i64.wrap (n_3 + 1)))
 partial_fixpoint
end
def Zay.M (e : Zj) (r : Int) : Prop :=
 Zq Tryz.prog 47 [.agg (Zj.fl e)] [] (fun d b => d = .c none (.v (.int .i64 r)) ∧ b = [])
def Zc8.M (n_3 : Int) (e : Zj) (ZcO : Nat) (ZbY : (List Zj)) (r : Int) : Prop :=
 ∀ Zff : List Zj, e.fKids = Zff ++ ZbY → ZcO = Zff.length → e.fKids.length ≤ maxLen → nL 50 Tryz.f47 [1, 1, 0, 1, 0] (.c none (.v (.int .i64 r))) [] ⟨[(1, .ptr 1 0), (3, .c none (.v (.int .i64 n_3))), (11, .c none (.sl (e.fKids.map Zj.cells))), (12, .c none (.v (.int .i64 ((e.fKids.length : Nat) : Int)))), (13, .c none (.v (.int .i64 ((ZcO : Nat) : Int))))], [(1, (Zj.bx e))]⟩
def ZcU.M (n_3 : Int) (e : Zj) (ZaL : Nat) (Zu : (List Za)) (r : Int) : Prop :=
 ∀ ZaE : List Za, e.fBinds = ZaE ++ Zu → ZaL = ZaE.length → e.fKids.length ≤ maxLen → e.fBinds.length ≤ maxLen → nL 50 Tryz.f47 [1, 1, 1, 0, 1, 0] (.c none (.v (.int .i64 r))) [] ⟨[(1, .ptr 1 0), (3, .c none (.v (.int .i64 n_3))), (23, .c none (.sl (e.fBinds.map Za.cells))), (24, .c none (.v (.int .i64 ((e.fBinds.length : Nat) : Int)))), (25, .c none (.v (.int .i64 ((ZaL : Nat) : Int))))], [(1, (Zj.bx e))]⟩
def ZcR.M (n_3 : Int) (e : Zj) (Zwg : Nat) (Zne : (List Zf)) (r : Int) : Prop :=
 ∀ Zss : List Zf, e.fAlts = Zss ++ Zne → Zwg = Zss.length → e.fKids.length ≤ maxLen → e.fBinds.length ≤ maxLen → e.fAlts.length ≤ maxLen → nL 50 Tryz.f47 [1, 1, 1, 1, 0, 1, 0] (.c none (.v (.int .i64 r))) [] ⟨[(3, .c none (.v (.int .i64 n_3))), (36, .c none (.sl (e.fAlts.map Zf.cells))), (37, .c none (.v (.int .i64 ((e.fAlts.length : Nat) : Int)))), (38, .c none (.v (.int .i64 ((Zwg : Nat) : Int))))], []⟩
theorem Zru : (∀ e r, Zay e = some r → Zay.M e r) ∧ (∀ n_3 e ZcO ZbY r, Zc8 n_3 e ZcO ZbY = some r → Zc8.M n_3 e ZcO ZbY r) ∧ (∀ n_3 e ZaL Zu r, ZcU n_3 e ZaL Zu = some r → ZcU.M n_3 e ZaL Zu r) ∧ (∀ n_3 e Zwg Zne r, ZcR n_3 e Zwg Zne = some r → ZcR.M n_3 e Zwg Zne r) := by
 refine Zay.mutual_partial_correctness Zay.M Zc8.M ZcU.M ZcR.M ?_ ?_ ?_ ?_
 ·intro stg_nesting_l1' Ziy e r hF
  unfold Zay.M
  refine en Tryz.func47 ?_
  refine zln fun hlen14 => ?_
  exact znl (Ziy _ _ _ _ _ hF ([]) rfl rfl hlen14)
 ·intro stg_nesting' stg_nesting_l1' stg_nesting_l2' Zhr Ziy ZiV n_3 e ZcO ZbY r hF
  unfold Zc8.M nL
  intro Zff ZiF ZiS hlen14
  refine AWL.step ?_
  refine zbl ZiF ZiS (fun x24 Zhi Ze7 Zkm Zsy => ?_) (fun Ze7 => ?_)
  ·subst Ze7
   refine zsr (Zr (f := Zj.cells) (Zj.cells_eq x24) Zkm) ?_
   obtain ⟨r27, Zks, hF⟩ := bind_some hF
   refine zca [] [] [] (Zhr _ _ Zks) ?_
   exact znl (Ziy _ _ _ _ _ hF _ (zlh ZiF) (zlk ZiS) hlen14)
  ·subst Ze7
   refine zln fun hlen41 => ?_
   exact znl (ZiV _ _ _ _ _ hF ([]) rfl rfl hlen14 hlen41)
 ·intro stg_nesting' stg_nesting_l2' stg_nesting_l3' Zhr ZiV ZiG n_3 e ZaL Zu r hF
  unfold ZcU.M nL
  intro ZaE ZcB Zcx hlen14 hlen41
  refine AWL.step ?_
  refine zbl ZcB Zcx (fun x51 ZFb ZD0 ZJJ hl53 => ?_) (fun ZD0 => ?_)
  ·subst ZD0
   refine zsr (Zr (f := Za.cells) (Za.cells_eq x51) ZJJ) ?_
   obtain ⟨r54, ZDX, hF⟩ := bind_some hF
   refine zca [] [] [] (Zhr _ _ ZDX) ?_
   exact znl (ZiV _ _ _ _ _ hF _ (zlh ZcB) (zlk Zcx) hlen14 hlen41)
  ·subst ZD0
   refine zln fun hlen55 => ?_
   exact znl (ZiG _ _ _ _ _ hF ([]) rfl rfl hlen14 hlen41 hlen55)
 ·intro stg_nesting' stg_nesting_l3' Zhr ZiG n_3 e Zwg Zne r hF
  unfold ZcR.M nL
  intro Zss Zxq ZxY hlen14 hlen41 hlen55
  refine AWL.step ?_
  refine zbl Zxq ZxY (fun x65 ZvS ZsN ZwE ZEG => ?_) (fun ZsN => ?_)
  ·subst ZsN
   refine zsr (Zr (f := Zf.cells) (Zf.cells_eq x65) ZwE) ?_
   obtain ⟨r68, ZEj, hF⟩ := bind_some hF
   refine zca [] [] [] (Zhr _ _ ZEj) ?_
   exact znl (ZiG _ _ _ _ _ hF _ (zlh Zxq) (zlk ZxY) hlen14 hlen41 hlen55)
  ·subst ZsN
   obtain rfl := Ze hF
   exact zre []
theorem ZtO {e r} (h : Zay e = some r) : Zay.M e r := Zru.1 _ _ h

def Zcw (Zid : Int) (p : Zi) (Ztf : Nat) (Zjx : (List Za)) : Option (Int) :=
 (match Zjx with
 | x44 :: ZGj =>
 Zay x44.fBody >>= fun r49 =>
 if (decide (r49 > 4000)) = true then
 some 4
 else
 ZcY x44.fBody >>= fun r51 =>
 Zcw (IntKind.i64.wrap (Zid + r51)) p (Ztf + 1) ZGj
 | [] =>
 if (((decide (Zid > 60000)) || (decide (((p.fCons.length : Nat) : Int) > 60000))) || (decide (((p.fBinds.length : Nat) : Int) > 60000))) = true then
 some 3
 else
 ZbP p 0 ([] : List (ByteArray × Int)) ([] : List (ByteArray × Int)) false p.fCons)
 partial_fixpoint
def Zcw.M (p : Zi) (Zid : Int) (Ztf : Nat) (Zjx : (List Za)) (r : Int) : Prop :=
 ∀ ZsY : List Za, p.fBinds = ZsY ++ Zjx → Ztf = ZsY.length → p.fBinds.length ≤ maxLen → nL 120 Tryz.f22 [1, 1, 0, 1, 0] (.c none (.v (.int .i64 r))) [] ⟨[(1, .ptr 1 0), (3, .c none (.v (.int .i64 Zid))), (14, .c none (.sl (p.fBinds.map Za.cells))), (15, .c none (.v (.int .i64 ((p.fBinds.length : Nat) : Int)))), (16, .c none (.v (.int .i64 ((Ztf : Nat) : Int))))], [(1, [(none, .sl (p.fCons.map Zk.cells)), (none, .sl (p.fBinds.map Za.cells))])]⟩
theorem Zqt (p : Zi) : ∀ Zid Ztf Zjx r, Zcw Zid p Ztf Zjx = some r → Zcw.M p Zid Ztf Zjx r := by
 refine Zcw.partial_correctness p (Zcw.M p) ?_
 intro stg_Check_l1' ZrD Zid Ztf Zjx r hF
 unfold Zcw.M nL
 intro ZsY ZxI Zya hlen26
 refine AWL.step ?_
 refine zbl ZxI Zya (fun x44 ZGj ZCT ZJz hl46 => ?_) (fun ZCT => ?_)
 ·subst ZCT
  refine zsr (Zr (f := Za.cells) (Za.cells_eq x44) ZJz) ?_
  obtain ⟨r49, ZIV, hF⟩ := bind_some hF
  refine zca [] [] [] (ZtO ZIV) ?_
  refine zbr hF (fun ZzF hF => ?_) (fun ZzF hF => ?_)
  ·obtain rfl := Ze hF
   exact zre []
  ·obtain ⟨r51, ZJ4, hF⟩ := bind_some hF
   refine zca [] [] [] (Zq6 ZJ4) ?_
   exact znl (ZrD _ _ _ _ hF _ (zlh ZxI) (zlk Zya) hlen26)
 ·subst ZCT
  refine nw ?_
  refine sq (sq ?_)
  refine zck [1] [1] [(43, .c none (.v (.bool (((decide (Zid > 60000)) || (decide (((p.fCons.length : Nat) : Int) > 60000))) || (decide (((p.fBinds.length : Nat) : Int) > 60000))))))] ?_ ?_
  ·exact zpt
  refine zbr hF (fun Zy4 hF => ?_) (fun Zy4 hF => ?_)
  ·obtain rfl := Ze hF
   exact zre []
  ·refine zln fun hlen82 => ?_
   exact znl (Zrp hF ([]) rfl rfl hlen26 hlen82)
theorem Zrk {Zid p Ztf Zjx r} (h : Zcw Zid p Ztf Zjx = some r) : Zcw.M p Zid Ztf Zjx r := (Zqt p) _ _ _ _ h

def ZeF (p : Zi) : Option (Int) :=
 Zcw 0 p 0 p.fBinds
def ZeF.M (p : Zi) (r : Int) : Prop :=
 Zq Tryz.prog 22 [.agg [.sl (p.fCons.map Zk.cells), .sl (p.fBinds.map Za.cells)]] [] (fun d b => d = .c none (.v (.int .i64 r)) ∧ b = [])
theorem Zj5 {p r} (hF : ZeF p = some r) : ZeF.M p r := by
 unfold ZeF at hF
 unfold ZeF.M
 refine en Tryz.func22 ?_
 refine zln fun hlen26 => ?_
 exact znl (Zrk hF ([]) rfl rfl hlen26)

def Zg9 (l : (List ByteArray)) (names : (List ByteArray)) : Option ((List ByteArray)) :=
 ZaK ((l.length + ([(ByteArray.mk #[40])]).length) * 16 ≤ 140737488355328) >>= fun _ =>
 ZaK (((l ++ ([(ByteArray.mk #[40])])).length + names.length) * 16 ≤ 140737488355328) >>= fun _ =>
 ZaK ((((l ++ ([(ByteArray.mk #[40])])) ++ names).length + ([(ByteArray.mk #[41])]).length) * 16 ≤ 140737488355328) >>= fun _ =>
 some (((l ++ ([(ByteArray.mk #[40])])) ++ names) ++ ([(ByteArray.mk #[41])]))
def Zg9.M (l : (List ByteArray)) (names : (List ByteArray)) (r : (List ByteArray)) : Prop :=
 Zq Tryz.prog 66 [.c (some (0, 9)) (.sl (l.map c_S)), .c none (.sl (names.map c_S))] [] (fun d b => d = .c (some (0, 9)) (.sl (r.map c_S)) ∧ b = [])
theorem Zoa {l names r} (hF : Zg9 l names = some r) : Zg9.M l names r := by
 unfold Zg9 at hF
 unfold Zg9.M
 refine en Tryz.func66 ?_
 obtain ⟨hg1, hF⟩ := Zx hF
 refine zgo ?_
 refine ea (ZH (f := c_S) (lc Zn) (Zp (f := c_S))) (zsa (fun l => Zaf l (fun x => Zbb x)) hg1 ?_)
 refine ea (WE.refl _) ?_
 rw [← List.map_append]
 obtain ⟨hg2, hF⟩ := Zx hF
 refine zsa (fun l => Zaf l (fun x => Zbb x)) hg2 ?_
 refine ea (WE.refl _) ?_
 rw [← List.map_append]
 obtain ⟨hg3, hF⟩ := Zx hF
 refine zgo ?_
 refine ea (ZH (f := c_S) (lc Zn) (Zp (f := c_S))) (zsa (fun l => Zaf l (fun x => Zbb x)) hg3 ?_)
 refine ea (WE.refl _) ?_
 rw [← List.map_append]
 obtain rfl := Ze hF
 exact zrg [] (rn [(13, 0)])

def Zio (l : (List ByteArray)) (a : ZJ) : Option ((List ByteArray)) :=
 if (a.fOp == 1) = true then
 ZaK ((l.length + ([(ByteArray.mk #[40]), (ByteArray.mk #[118, 97, 114]), a.fName, (ByteArray.mk #[41])]).length) * 16 ≤ 140737488355328) >>= fun _ =>
 some (l ++ ([(ByteArray.mk #[40]), (ByteArray.mk #[118, 97, 114]), a.fName, (ByteArray.mk #[41])]))
 else
 if (a.fOp == 2) = true then
 strconv_Itoa a.fN >>= fun r9 =>
 ZaK ((l.length + ([(ByteArray.mk #[40]), (ByteArray.mk #[105, 110, 116]), r9, (ByteArray.mk #[41])]).length) * 16 ≤ 140737488355328) >>= fun _ =>
 some (l ++ ([(ByteArray.mk #[40]), (ByteArray.mk #[105, 110, 116]), r9, (ByteArray.mk #[41])]))
 else
 strconv_Itoa a.fN >>= fun r11 =>
 ZaK ((l.length + ([(ByteArray.mk #[40]), (ByteArray.mk #[99, 104, 97, 114]), r11, (ByteArray.mk #[41])]).length) * 16 ≤ 140737488355328) >>= fun _ =>
 some (l ++ ([(ByteArray.mk #[40]), (ByteArray.mk #[99, 104, 97, 114]), r11, (ByteArray.mk #[41])]))
def Zio.M (l : (List ByteArray)) (a : ZJ) (r : (List ByteArray)) : Prop :=
 Zq Tryz.prog 103 [.c (some (0, 9)) (.sl (l.map c_S)), .agg (ZJ.fl a)] [] (fun d b => d = .c (some (0, 9)) (.sl (r.map c_S)) ∧ b = [])
theorem ZsH {l a r} (hF : Zio l a = some r) : Zio.M l a r := by
 unfold Zio at hF
 unfold Zio.M
 refine en Tryz.func103 ?_
 refine zbr hF (fun hc6 hF => ?_) (fun hc6 hF => ?_)
 ·obtain ⟨hg7, hF⟩ := Zx hF
  refine zgo ?_
  refine ea (ZH (f := c_S) (lc Zn) (ZH (f := c_S) (lc Zn) (ZH (f := c_S) (lc Zn) (ZH (f := c_S) (lc Zn) (Zp (f := c_S)))))) (zsa (fun l => Zaf l (fun x => Zbb x)) hg7 ?_)
  refine ea (WE.refl _) ?_
  rw [← List.map_append]
  obtain rfl := Ze hF
  exact zrg [] (rn [(13, 0)])
 ·refine zbr hF (fun hc8 hF => ?_) (fun hc8 hF => ?_)
  ·obtain ⟨r9, hr9, hF⟩ := bind_some hF
   obtain ⟨ZEf, hF⟩ := Zx hF
   refine zca [] [] [] (Zfy _ _ hr9) ?_
   refine zgo ?_
   refine ea (ZH (f := c_S) (lc Zn) (ZH (f := c_S) (lc Zn) (ZH (f := c_S) (lc Zn) (ZH (f := c_S) (lc Zn) (Zp (f := c_S)))))) (zsa (fun l => Zaf l (fun x => Zbb x)) ZEf ?_)
   refine ea (WE.refl _) ?_
   rw [← List.map_append]
   obtain rfl := Ze hF
   exact zrg [] (rn [(21, 0)])
  ·obtain ⟨r11, Zu6, hF⟩ := bind_some hF
   obtain ⟨ZJk, hF⟩ := Zx hF
   refine zca [] [] [] (Zfy _ _ Zu6) ?_
   refine zgo ?_
   refine ea (ZH (f := c_S) (lc Zn) (ZH (f := c_S) (lc Zn) (ZH (f := c_S) (lc Zn) (ZH (f := c_S) (lc Zn) (Zp (f := c_S)))))) (zsa (fun l => Zaf l (fun x => Zbb x)) ZJk ?_)
   refine ea (WE.refl _) ?_
   rw [← List.map_append]
   obtain rfl := Ze hF
   exact zrg [] (rn [(27, 0)])

def ZeK (l_0 : (List ByteArray)) (e : Zj) (Zsb : Nat) (Zjv : (List ZJ)) : Option ((List ByteArray)) :=
 (match Zjv with
 | x91 :: Zzj =>
 Zio l_0 x91 >>= fun r94 =>
 ZeK r94 e (Zsb + 1) Zzj
 | [] =>
 ZaK ((l_0.length + ([(ByteArray.mk #[41])]).length) * 16 ≤ 140737488355328) >>= fun _ =>
 some (l_0 ++ ([(ByteArray.mk #[41])])))
 partial_fixpoint
def ZeK.M (e : Zj) (l_0 : (List ByteArray)) (Zsb : Nat) (Zjv : (List ZJ)) (r : (List ByteArray)) : Prop :=
 ∀ ZtD : List ZJ, e.fArgs = ZtD ++ Zjv → Zsb = ZtD.length → e.fArgs.length ≤ maxLen → nL 109 Tryz.f67 [1, 1, 1, 0, 1, 0] (.c (some (0, 9)) (.sl (r.map c_S))) [] ⟨[(0, .c (some (0, 9)) (.sl (l_0.map c_S))), (96, .c none (.sl (e.fArgs.map ZJ.cells))), (97, .c none (.v (.int .i64 ((e.fArgs.length : Nat) : Int)))), (98, .c none (.v (.int .i64 ((Zsb : Nat) : Int))))], []⟩
theorem ZtQ (e : Zj) : ∀ l_0 Zsb Zjv r, ZeK l_0 e Zsb Zjv = some r → ZeK.M e l_0 Zsb Zjv r := by
 refine ZeK.partial_correctness e (ZeK.M e) ?_
 intro stg_put_l2' ZtY l_0 Zsb Zjv r hF
 unfold ZeK.M nL
 intro ZtD Zxm ZxU hlen81
 refine AWL.step ?_
 refine zbl Zxm ZxU (fun x91 Zzj ZwS ZDS ZIx => ?_) (fun ZwS => ?_)
 ·subst ZwS
  refine zsr (Zr (f := ZJ.cells) (ZJ.cells_eq x91) ZDS) ?_
  obtain ⟨r94, ZEn, hF⟩ := bind_some hF
  refine zca [] [] [] (ZsH ZEn) ?_
  exact znr (rn [(104, 0)]) (ZtY _ _ _ _ hF _ (zlh Zxm) (zlk ZxU) hlen81)
 ·subst ZwS
  obtain ⟨ZJa, hF⟩ := Zx hF
  refine zgo ?_
  refine ea (ZH (f := c_S) (lc Zn) (Zp (f := c_S))) (zsa (fun l => Zaf l (fun x => Zbb x)) ZJa ?_)
  refine ea (WE.refl _) ?_
  rw [← List.map_append]
  obtain rfl := Ze hF
  exact zrg [] (rn [(108, 0)])
theorem ZtR {l_0 e Zsb Zjv r} (h : ZeK l_0 e Zsb Zjv = some r) : ZeK.M e l_0 Zsb Zjv r := (ZtQ e) _ _ _ _ h

def Zel (l_0 : (List ByteArray)) (e : Zj) : Option ((List ByteArray)) :=
 ZeK l_0 e 0 e.fArgs
def Zel.M (l_0 : (List ByteArray)) (e : Zj) (r : (List ByteArray)) : Prop :=
 nP 109 Tryz.f67 [1, 1, 1] (.c (some (0, 9)) (.sl (r.map c_S))) [] ⟨[(0, .c (some (0, 9)) (.sl (l_0.map c_S))), (3, .ptr 3 0)], [(3, (Zj.bx e))]⟩
theorem ZfL {l_0 e r} (hF : Zel l_0 e = some r) : Zel.M l_0 e r := by
 unfold Zel at hF
 unfold Zel.M nP
 refine zln fun hlen81 => ?_
 exact znl (ZtR hF ([]) rfl rfl hlen81)

mutual
def Zd4 (l : (List ByteArray)) (b : Za) : Option ((List ByteArray)) :=
 if (b.fOp == 1) = true then
 Zeb l (ByteArray.mk #[102, 117, 110]) b
 else
 Zeb l (ByteArray.mk #[116, 104, 117, 110, 107]) b
 partial_fixpoint
def Zeb (l : (List ByteArray)) (ZeJ : ByteArray) (b : Za) : Option ((List ByteArray)) :=
 if (b.fOp == 3) = true then
 Zej l (ByteArray.mk #[99, 111, 110]) b
 else
 Zej l ZeJ b
 partial_fixpoint
def Zej (l : (List ByteArray)) (ZeJ : ByteArray) (b : Za) : Option ((List ByteArray)) :=
 ZaK ((l.length + ([(ByteArray.mk #[40]), ZeJ, b.fName]).length) * 16 ≤ 140737488355328) >>= fun _ =>
 Zg9 (l ++ ([(ByteArray.mk #[40]), ZeJ, b.fName])) b.fFree >>= fun r6 =>
 if (b.fOp == 1) = true then
 Zg9 r6 b.fParams >>= fun r12 =>
 Zee r12 b
 else
 Zee r6 b
 partial_fixpoint
def Zee (l_0 : (List ByteArray)) (b : Za) : Option ((List ByteArray)) :=
 Zia l_0 b.fBody >>= fun r9 =>
 ZaK ((r9.length + ([(ByteArray.mk #[41])]).length) * 16 ≤ 140737488355328) >>= fun _ =>
 some (r9 ++ ([(ByteArray.mk #[41])]))
 partial_fixpoint
def Zia (l : (List ByteArray)) (e : Zj) : Option ((List ByteArray)) :=
 ZaK ((l.length + ([(ByteArray.mk #[40])]).length) * 16 ≤ 140737488355328) >>= fun _ =>
 if (e.fOp == 1) = true then
 ZaK (((l ++ ([(ByteArray.mk #[40])])).length + ([(ByteArray.mk #[97, 116, 111, 109])]).length) * 16 ≤ 140737488355328) >>= fun _ =>
 Zel ((l ++ ([(ByteArray.mk #[40])])) ++ ([(ByteArray.mk #[97, 116, 111, 109])])) e
 else
 if (e.fOp == 2) = true then
 ZaK (((l ++ ([(ByteArray.mk #[40])])).length + ([(ByteArray.mk #[97, 112, 112]), e.fName]).length) * 16 ≤ 140737488355328) >>= fun _ =>
 Zel ((l ++ ([(ByteArray.mk #[40])])) ++ ([(ByteArray.mk #[97, 112, 112]), e.fName])) e
 else
 if (e.fOp == 3) = true then
 ZaK (((l ++ ([(ByteArray.mk #[40])])).length + ([(ByteArray.mk #[99, 111, 110]), e.fName]).length) * 16 ≤ 140737488355328) >>= fun _ =>
 Zel ((l ++ ([(ByteArray.mk #[40])])) ++ ([(ByteArray.mk #[99, 111, 110]), e.fName])) e
 else
 if (e.fOp == 4) = true then
 ZaK (((l ++ ([(ByteArray.mk #[40])])).length + ([(ByteArray.mk #[112, 114, 105, 109]), e.fName]).length) * 16 ≤ 140737488355328) >>= fun _ =>
 Zel ((l ++ ([(ByteArray.mk #[40])])) ++ ([(ByteArray.mk #[112, 114, 105, 109]), e.fName])) e
 else
 if (e.fOp == 5) = true then
 if e.fRec = true then
 Zih l (ByteArray.mk #[108, 101, 116, 114, 101, 99]) e
 else
 Zih l (ByteArray.mk #[108, 101, 116]) e
 else
 if (e.fOp == 6) = true then
 (ixI e.fKids 0) >>= fun ZDH =>
 ZaK (((l ++ ([(ByteArray.mk #[40])])).length + ([(ByteArray.mk #[99, 97, 115, 101])]).length) * 16 ≤ 140737488355328) >>= fun _ =>
 Zia ((l ++ ([(ByteArray.mk #[40])])) ++ ([(ByteArray.mk #[99, 97, 115, 101])])) ZDH >>= fun ZyF =>
 ZaK ((ZyF.length + ([e.fName]).length) * 16 ≤ 140737488355328) >>= fun _ =>
 Zii (ZyF ++ ([e.fName])) e 0 e.fAlts
 else
 Zel (l ++ ([(ByteArray.mk #[40])])) e
 partial_fixpoint
def Zii (l_0 : (List ByteArray)) (e : Zj) (Zwi : Nat) (Zmz : (List Zf)) : Option ((List ByteArray)) :=
 (match Zmz with
 | ZC7 :: ZCf =>
 Zjh l_0 ZC7 >>= fun ZGe =>
 Zii ZGe e (Zwi + 1) ZCf
 | [] =>
 Zel l_0 e)
 partial_fixpoint
def Zjh (l : (List ByteArray)) (a : Zf) : Option ((List ByteArray)) :=
 ZaK ((l.length + ([(ByteArray.mk #[40])]).length) * 16 ≤ 140737488355328) >>= fun _ =>
 if (a.fOp == 1) = true then
 ZaK (((l ++ ([(ByteArray.mk #[40])])).length + ([(ByteArray.mk #[97, 108, 116]), a.fName]).length) * 16 ≤ 140737488355328) >>= fun _ =>
 Zg9 ((l ++ ([(ByteArray.mk #[40])])) ++ ([(ByteArray.mk #[97, 108, 116]), a.fName])) a.fVars >>= fun r20 =>
 Zey r20 a
 else
 if (a.fOp == 2) = true then
 strconv_Itoa a.fN >>= fun r22 =>
 ZaK (((l ++ ([(ByteArray.mk #[40])])).length + ([(ByteArray.mk #[105, 110, 116]), r22]).length) * 16 ≤ 140737488355328) >>= fun _ =>
 Zey ((l ++ ([(ByteArray.mk #[40])])) ++ ([(ByteArray.mk #[105, 110, 116]), r22])) a
 else
 if (a.fOp == 3) = true then
 strconv_Itoa a.fN >>= fun r25 =>
 ZaK (((l ++ ([(ByteArray.mk #[40])])).length + ([(ByteArray.mk #[99, 104, 97, 114]), r25]).length) * 16 ≤ 140737488355328) >>= fun _ =>
 Zey ((l ++ ([(ByteArray.mk #[40])])) ++ ([(ByteArray.mk #[99, 104, 97, 114]), r25])) a
 else
 ZaK (((l ++ ([(ByteArray.mk #[40])])).length + ([(ByteArray.mk #[100, 101, 102, 97, 117, 108, 116])]).length) * 16 ≤ 140737488355328) >>= fun _ =>
 Zey ((l ++ ([(ByteArray.mk #[40])])) ++ ([(ByteArray.mk #[100, 101, 102, 97, 117, 108, 116])])) a
 partial_fixpoint
def Zey (l_0 : (List ByteArray)) (a : Zf) : Option ((List ByteArray)) :=
 Zia l_0 a.fBody >>= fun r14 =>
 ZaK ((r14.length + ([(ByteArray.mk #[41])]).length) * 16 ≤ 140737488355328) >>= fun _ =>
 some (r14 ++ ([(ByteArray.mk #[41])]))
 partial_fixpoint
def Zih (l : (List ByteArray)) (ZeJ : ByteArray) (e : Zj) : Option ((List ByteArray)) :=
 ZaK (((l ++ ([(ByteArray.mk #[40])])).length + ([ZeJ]).length) * 16 ≤ 140737488355328) >>= fun _ =>
 Zie ((l ++ ([(ByteArray.mk #[40])])) ++ ([ZeJ])) e 0 e.fBinds
 partial_fixpoint
def Zie (l_0 : (List ByteArray)) (e : Zj) (ZvD : Nat) (Znd : (List Za)) : Option ((List ByteArray)) :=
 (match Znd with
 | ZDO :: ZCq =>
 Zd4 l_0 ZDO >>= fun Zfp =>
 Zie Zfp e (ZvD + 1) ZCq
 | [] =>
 (ixI e.fKids 0) >>= fun Zwz =>
 ZaK ((l_0.length + ([(ByteArray.mk #[105, 110])]).length) * 16 ≤ 140737488355328) >>= fun _ =>
 Zia (l_0 ++ ([(ByteArray.mk #[105, 110])])) Zwz >>= fun ZIj =>
 Zel ZIj e)
 partial_fixpoint
end
def Zd4.M (l : (List ByteArray)) (b : Za) (r : (List ByteArray)) : Prop :=
 Zq Tryz.prog 35 [.c (some (0, 9)) (.sl (l.map c_S)), .agg (Za.fl b)] [] (fun d b => d = .c (some (0, 9)) (.sl (r.map c_S)) ∧ b = [])
def Zeb.M (l : (List ByteArray)) (ZeJ : ByteArray) (b : Za) (r : (List ByteArray)) : Prop :=
 nP 34 Tryz.f35 [1, 1, 1] (.c (some (0, 9)) (.sl (r.map c_S))) [] ⟨[(0, .c (some (0, 9)) (.sl (l.map c_S))), (3, .ptr 3 0), (5, .c none (.v (.string ZeJ)))], [(3, (Za.bx b))]⟩
def Zej.M (l : (List ByteArray)) (ZeJ : ByteArray) (b : Za) (r : (List ByteArray)) : Prop :=
 nP 34 Tryz.f35 [1, 1, 1, 1] (.c (some (0, 9)) (.sl (r.map c_S))) [] ⟨[(0, .c (some (0, 9)) (.sl (l.map c_S))), (3, .ptr 3 0), (5, .c none (.v (.string ZeJ)))], [(3, (Za.bx b))]⟩
def Zee.M (l_0 : (List ByteArray)) (b : Za) (r : (List ByteArray)) : Prop :=
 nP 34 Tryz.f35 [1, 1, 1, 1, 1, 1] (.c (some (0, 9)) (.sl (r.map c_S))) [] ⟨[(0, .c (some (0, 9)) (.sl (l_0.map c_S))), (3, .ptr 3 0)], [(3, (Za.bx b))]⟩
def Zia.M (l : (List ByteArray)) (e : Zj) (r : (List ByteArray)) : Prop :=
 Zq Tryz.prog 67 [.c (some (0, 9)) (.sl (l.map c_S)), .agg (Zj.fl e)] [] (fun d b => d = .c (some (0, 9)) (.sl (r.map c_S)) ∧ b = [])
def Zii.M (l_0 : (List ByteArray)) (e : Zj) (Zwi : Nat) (Zmz : (List Zf)) (r : (List ByteArray)) : Prop :=
 ∀ Ztk : List Zf, e.fAlts = Ztk ++ Zmz → Zwi = Ztk.length → e.fAlts.length ≤ maxLen → nL 109 Tryz.f67 [1, 1, 0, 1, 0, 1, 1, 1, 1, 1, 1, 1, 1, 1, 1, 1, 0, 1, 1, 0] (.c (some (0, 9)) (.sl (r.map c_S))) [] ⟨[(0, .c (some (0, 9)) (.sl (l_0.map c_S))), (3, .ptr 3 0), (85, .c none (.sl (e.fAlts.map Zf.cells))), (86, .c none (.v (.int .i64 ((e.fAlts.length : Nat) : Int)))), (87, .c none (.v (.int .i64 ((Zwi : Nat) : Int))))], [(3, (Zj.bx e))]⟩
def Zjh.M (l : (List ByteArray)) (a : Zf) (r : (List ByteArray)) : Prop :=
 Zq Tryz.prog 102 [.c (some (0, 9)) (.sl (l.map c_S)), .agg (Zf.fl a)] [] (fun d b => d = .c (some (0, 9)) (.sl (r.map c_S)) ∧ b = [])
def Zey.M (l_0 : (List ByteArray)) (a : Zf) (r : (List ByteArray)) : Prop :=
 nP 45 Tryz.f102 [1, 1, 1] (.c (some (0, 9)) (.sl (r.map c_S))) [] ⟨[(0, .c (some (0, 9)) (.sl (l_0.map c_S))), (3, .ptr 3 0)], [(3, (Zf.bx a))]⟩
def Zih.M (l : (List ByteArray)) (ZeJ : ByteArray) (e : Zj) (r : (List ByteArray)) : Prop :=
 nP 109 Tryz.f67 [1, 1, 0, 1, 0, 1, 1, 1, 1, 1, 1, 1, 1, 1, 0, 1, 1] (.c (some (0, 9)) (.sl (r.map c_S))) [] ⟨[(0, .c (some (0, 9)) (.sl ((l ++ ([(ByteArray.mk #[40])])).map c_S))), (3, .ptr 3 0), (5, .c none (.v (.string ZeJ)))], [(3, (Zj.bx e))]⟩
def Zie.M (l_0 : (List ByteArray)) (e : Zj) (ZvD : Nat) (Znd : (List Za)) (r : (List ByteArray)) : Prop :=
 ∀ Zta : List Za, e.fBinds = Zta ++ Znd → ZvD = Zta.length → e.fBinds.length ≤ maxLen → nL 109 Tryz.f67 [1, 1, 0, 1, 0, 1, 1, 1, 1, 1, 1, 1, 1, 1, 0, 1, 1, 1, 0, 1, 0] (.c (some (0, 9)) (.sl (r.map c_S))) [] ⟨[(0, .c (some (0, 9)) (.sl (l_0.map c_S))), (3, .ptr 3 0), (52, .c none (.sl (e.fBinds.map Za.cells))), (53, .c none (.v (.int .i64 ((e.fBinds.length : Nat) : Int)))), (54, .c none (.v (.int .i64 ((ZvD : Nat) : Int))))], [(3, (Zj.bx e))]⟩
theorem Zrq : (∀ l b r, Zd4 l b = some r → Zd4.M l b r) ∧ (∀ l ZeJ b r, Zeb l ZeJ b = some r → Zeb.M l ZeJ b r) ∧ (∀ l ZeJ b r, Zej l ZeJ b = some r → Zej.M l ZeJ b r) ∧ (∀ l_0 b r, Zee l_0 b = some r → Zee.M l_0 b r) ∧ (∀ l e r, Zia l e = some r → Zia.M l e r) ∧ (∀ l_0 e Zwi Zmz r, Zii l_0 e Zwi Zmz = some r → Zii.M l_0 e Zwi Zmz r) ∧ (∀ l a r, Zjh l a = some r → Zjh.M l a r) ∧ (∀ l_0 a r, Zey l_0 a = some r → Zey.M l_0 a r) ∧ (∀ l ZeJ e r, Zih l ZeJ e = some r → Zih.M l ZeJ e r) ∧ (∀ l_0 e ZvD Znd r, Zie l_0 e ZvD Znd = some r → Zie.M l_0 e ZvD Znd r) := by
 refine Zd4.mutual_partial_correctness Zd4.M Zeb.M Zej.M Zee.M Zia.M Zii.M Zjh.M Zey.M Zih.M Zie.M ?_ ?_ ?_ ?_ ?_ ?_ ?_ ?_ ?_ ?_
 ·intro stg_putBind_k1' Zk6 l b r hF
  unfold Zd4.M
  refine en Tryz.func35 ?_
  refine zbr hF (fun Zij hF => ?_) (fun Zij hF => ?_)
  ·refine ns ?_
   exact zja (Zk6 _ _ _ _ hF)
  ·refine nw ?_
   exact zja (Zk6 _ _ _ _ hF)
 ·intro stg_putBind_k2' Zlb l ZeJ b r hF
  unfold Zeb.M nP
  refine zbr hF (fun Zir hF => ?_) (fun Zir hF => ?_)
  ·refine ns ?_
   exact zja (Zlb _ _ _ _ hF)
  ·refine nw ?_
   exact zja (Zlb _ _ _ _ hF)
 ·intro stg_putBind_k3' Zla l ZeJ b r hF
  unfold Zej.M nP
  obtain ⟨hg5, hF⟩ := Zx hF
  obtain ⟨r6, hr6, hF⟩ := bind_some hF
  refine zdn [1, 2, 3, 4, 6, 7] [[13, 14, 15, 16, 18, 19], [13, 14, 15, 16, 18, 19], [13, 15, 16, 18, 19], [16, 18, 19], [13, 14, 15, 16, 18, 19], [13, 14, 15, 16, 19]] [3] [3, 5, 13, 14, 15, 16, 18, 19] [13, 14, 15, 16, 18, 19] [0, 5, 8, 9] ?_
  refine dp ?_
  refine dp ?_
  refine dp ?_
  refine de (ZH (f := c_S) (lc Zn) (ZH (f := c_S) (lc Zn) (ZH (f := c_S) (lc Zn) (Zp (f := c_S))))) ?_
  refine dp ?_
  refine dp ?_
  refine zsa (fun l => Zaf l (fun x => Zbb x)) hg5 ?_
  refine ea (WE.refl _) ?_
  rw [← List.map_append]
  refine zcb [] [] [] (rn [(17, 0)]) (Zoa hr6) ?_
  refine zbr hF (fun Zeo hF => ?_) (fun Zeo hF => ?_)
  ·obtain ⟨r12, Zw2, hF⟩ := bind_some hF
   refine zcb [] [] [] (rn [(20, 0)]) (Zoa Zw2) ?_
   refine st ?_
   exact zjr (rn [(27, 0)]) (Zla _ _ _ hF)
  ·refine nw ?_
   exact zjr (rn [(20, 0)]) (Zla _ _ _ hF)
 ·intro stg_put' Zig l_0 b r hF
  unfold Zee.M nP
  obtain ⟨r9, hr9, hF⟩ := bind_some hF
  obtain ⟨ZEf, hF⟩ := Zx hF
  refine zca [] [] [] (Zig _ _ _ hr9) ?_
  refine zgo ?_
  refine ea (ZH (f := c_S) (lc Zn) (Zp (f := c_S))) (zsa (fun l => Zaf l (fun x => Zbb x)) ZEf ?_)
  refine ea (WE.refl _) ?_
  rw [← List.map_append]
  obtain rfl := Ze hF
  exact zrg [] (rn [(33, 0)])
 ·intro stg_put' stg_put_l5' stg_put_k3' Zig Zlv Zo6 l e r hF
  unfold Zia.M
  refine en Tryz.func67 ?_
  obtain ⟨hg1, hF⟩ := Zx hF
  refine zgo ?_
  refine ea (ZH (f := c_S) (lc Zn) (Zp (f := c_S))) (zsa (fun l => Zaf l (fun x => Zbb x)) hg1 ?_)
  refine ea (WE.refl _) ?_
  rw [← List.map_append]
  refine zbr hF (fun ZJH hF => ?_) (fun ZJH hF => ?_)
  ·obtain ⟨ZI5, hF⟩ := Zx hF
   refine zgo ?_
   refine ea (ZH (f := c_S) (lc Zn) (Zp (f := c_S))) (zsa (fun l => Zaf l (fun x => Zbb x)) ZI5 ?_)
   refine ea (WE.refl _) ?_
   rw [← List.map_append]
   refine st ?_
   exact zjr (rn [(21, 0)]) (ZfL hF)
  ·refine zbr hF (fun ZI2 hF => ?_) (fun ZI2 hF => ?_)
   ·obtain ⟨ZI9, hF⟩ := Zx hF
    refine zgo ?_
    refine ea (ZH (f := c_S) (lc Zn) (ZH (f := c_S) (lc Zn) (Zp (f := c_S)))) (zsa (fun l => Zaf l (fun x => Zbb x)) ZI9 ?_)
    refine ea (WE.refl _) ?_
    rw [← List.map_append]
    refine st ?_
    exact zjr (rn [(28, 0)]) (ZfL hF)
   ·refine zbr hF (fun ZFi hF => ?_) (fun ZFi hF => ?_)
    ·obtain ⟨ZHw, hF⟩ := Zx hF
     refine zgo ?_
     refine ea (ZH (f := c_S) (lc Zn) (ZH (f := c_S) (lc Zn) (Zp (f := c_S)))) (zsa (fun l => Zaf l (fun x => Zbb x)) ZHw ?_)
     refine ea (WE.refl _) ?_
     rw [← List.map_append]
     refine st ?_
     exact zjr (rn [(35, 0)]) (ZfL hF)
    ·refine zbr hF (fun ZGx hF => ?_) (fun ZGx hF => ?_)
     ·obtain ⟨ZH3, hF⟩ := Zx hF
      refine zgo ?_
      refine ea (ZH (f := c_S) (lc Zn) (ZH (f := c_S) (lc Zn) (Zp (f := c_S)))) (zsa (fun l => Zaf l (fun x => Zbb x)) ZH3 ?_)
      refine ea (WE.refl _) ?_
      rw [← List.map_append]
      refine st ?_
      exact zjr (rn [(42, 0)]) (ZfL hF)
     ·refine zbr hF (fun ZG0 hF => ?_) (fun ZG0 hF => ?_)
      ·refine zbr hF (fun ZGc hF => ?_) (fun ZGc hF => ?_)
       ·refine ns ?_
        exact zjr (rn [(14, 0)]) (Zo6 _ _ _ _ hF)
       ·refine nw ?_
        exact zjr (rn [(14, 0)]) (Zo6 _ _ _ _ hF)
      ·refine zbr hF (fun ZzB hF => ?_) (fun ZzB hF => ?_)
       ·obtain ⟨ZDH, hx1460, ZAs, hF⟩ := Zlj hF
        obtain ⟨ZFE, hF⟩ := Zx hF
        obtain ⟨ZyF, Zy5, hF⟩ := bind_some hF
        obtain ⟨ZzC, hF⟩ := Zx hF
        refine zdn [1, 3, 4, 5, 6, 8, 9, 10] [[73, 75, 76, 77, 78, 80, 81, 82], [73, 75, 76, 77, 78, 80, 81, 82], [73, 76, 77, 78, 80, 81, 82], [73, 77, 78, 80, 81, 82], [73, 78, 80, 81, 82], [73, 75, 76, 77, 78, 80, 81, 82], [73, 75, 76, 77, 78, 81, 82], [73, 75, 76, 77, 78, 82]] [3] [3, 73, 75, 76, 77, 78, 80, 81, 82] [73, 75, 76, 77, 78, 80, 81, 82] [0, 2, 7, 11, 12] ?_
        refine de (ZH (f := c_S) (lc Zn) (Zp (f := c_S))) ?_
        refine dp ?_
        refine dp ?_
        refine dr (Zjz (Zj.cells_eq ZDH) ZAs) ?_
        refine dp ?_
        refine dp ?_
        refine dp ?_
        refine de (ZH (f := c_S) (lc Zn) (Zp (f := c_S))) ?_
        refine zsa (fun l => Zaf l (fun x => Zbb x)) ZFE ?_
        refine ea (WE.refl _) ?_
        rw [← List.map_append]
        refine zcb [] [] [] (rn [(74, 0)]) (Zig _ _ _ Zy5) ?_
        refine zsa (fun l => Zaf l (fun x => Zbb x)) ZzC ?_
        refine ea (WE.refl _) ?_
        rw [← List.map_append]
        refine zln fun hlen150 => ?_
        exact znr (rn [(83, 0)]) (Zlv _ _ _ _ _ hF ([]) rfl rfl hlen150)
       ·refine nw ?_
        exact zjr (rn [(14, 0)]) (ZfL hF)
 ·intro stg_put_l5' stg_putAlt' Zlv Zt3 l_0 e Zwi Zmz r hF
  unfold Zii.M nL
  intro Ztk ZxM ZxF hlen150
  refine AWL.step ?_
  refine zbl ZxM ZxF (fun ZC7 ZCf Zy3 ZGR hl162 => ?_) (fun Zy3 => ?_)
  ·subst Zy3
   refine zsr (Zr (f := Zf.cells) (Zf.cells_eq ZC7) ZGR) ?_
   obtain ⟨ZGe, ZFQ, hF⟩ := bind_some hF
   refine zca [] [] [] (Zt3 _ _ _ ZFQ) ?_
   exact znr (rn [(93, 0)]) (Zlv _ _ _ _ _ hF _ (zlh ZxM) (zlk ZxF) hlen150)
  ·subst Zy3
   refine nw ?_
   exact zja (ZfL hF)
 ·intro stg_putAlt_k1' Zhz l a r hF
  unfold Zjh.M
  refine en Tryz.func102 ?_
  obtain ⟨hg1, hF⟩ := Zx hF
  refine zgo ?_
  refine ea (ZH (f := c_S) (lc Zn) (Zp (f := c_S))) (zsa (fun l => Zaf l (fun x => Zbb x)) hg1 ?_)
  refine ea (WE.refl _) ?_
  rw [← List.map_append]
  refine zbr hF (fun ZkT hF => ?_) (fun ZkT hF => ?_)
  ·obtain ⟨ZDR, hF⟩ := Zx hF
   obtain ⟨r20, ZDw, hF⟩ := bind_some hF
   refine zdn [1, 2, 3, 5, 6] [[16, 17, 18, 20, 21], [17, 18, 20, 21], [18, 20, 21], [16, 17, 18, 20, 21], [16, 17, 18, 21]] [3] [3, 16, 17, 18, 20, 21] [16, 17, 18, 20, 21] [0, 4, 7, 8] ?_
   refine dp ?_
   refine dp ?_
   refine de (ZH (f := c_S) (lc Zn) (ZH (f := c_S) (lc Zn) (Zp (f := c_S)))) ?_
   refine dp ?_
   refine dp ?_
   refine zsa (fun l => Zaf l (fun x => Zbb x)) ZDR ?_
   refine ea (WE.refl _) ?_
   rw [← List.map_append]
   refine zcb [] [] [] (rn [(19, 0)]) (Zoa ZDw) ?_
   refine st ?_
   exact zjr (rn [(22, 0)]) (Zhz _ _ _ hF)
  ·refine zbr hF (fun Zje hF => ?_) (fun Zje hF => ?_)
   ·obtain ⟨r22, ZEw, hF⟩ := bind_some hF
    obtain ⟨ZJV, hF⟩ := Zx hF
    refine zca [] [] [] (Zfy _ _ ZEw) ?_
    refine zgo ?_
    refine ea (ZH (f := c_S) (lc Zn) (ZH (f := c_S) (lc Zn) (Zp (f := c_S)))) (zsa (fun l => Zaf l (fun x => Zbb x)) ZJV ?_)
    refine ea (WE.refl _) ?_
    rw [← List.map_append]
    refine st ?_
    exact zjr (rn [(30, 0)]) (Zhz _ _ _ hF)
   ·refine zbr hF (fun ZjD hF => ?_) (fun ZjD hF => ?_)
    ·obtain ⟨r25, ZuK, hF⟩ := bind_some hF
     obtain ⟨ZAJ, hF⟩ := Zx hF
     refine zca [] [] [] (Zfy _ _ ZuK) ?_
     refine zgo ?_
     refine ea (ZH (f := c_S) (lc Zn) (ZH (f := c_S) (lc Zn) (Zp (f := c_S)))) (zsa (fun l => Zaf l (fun x => Zbb x)) ZAJ ?_)
     refine ea (WE.refl _) ?_
     rw [← List.map_append]
     refine st ?_
     exact zjr (rn [(38, 0)]) (Zhz _ _ _ hF)
    ·obtain ⟨ZID, hF⟩ := Zx hF
     refine zgo ?_
     refine ea (ZH (f := c_S) (lc Zn) (Zp (f := c_S))) (zsa (fun l => Zaf l (fun x => Zbb x)) ZID ?_)
     refine ea (WE.refl _) ?_
     rw [← List.map_append]
     refine st ?_
     exact zjr (rn [(12, 0)]) (Zhz _ _ _ hF)
 ·intro stg_put' Zig l_0 a r hF
  unfold Zey.M nP
  obtain ⟨r14, Zqn, hF⟩ := bind_some hF
  obtain ⟨ZIQ, hF⟩ := Zx hF
  refine zca [] [] [] (Zig _ _ _ Zqn) ?_
  refine zgo ?_
  refine ea (ZH (f := c_S) (lc Zn) (Zp (f := c_S))) (zsa (fun l => Zaf l (fun x => Zbb x)) ZIQ ?_)
  refine ea (WE.refl _) ?_
  rw [← List.map_append]
  obtain rfl := Ze hF
  exact zrg [] (rn [(44, 0)])
 ·intro stg_put_l4' Zly l ZeJ e r hF
  unfold Zih.M nP
  obtain ⟨ZFe, hF⟩ := Zx hF
  refine zgo ?_
  refine ea (ZH (f := c_S) (lc Zn) (Zp (f := c_S))) (zsa (fun l => Zaf l (fun x => Zbb x)) ZFe ?_)
  refine ea (WE.refl _) ?_
  rw [← List.map_append]
  refine zln fun hlen120 => ?_
  exact znr (rn [(50, 0)]) (Zly _ _ _ _ _ hF ([]) rfl rfl hlen120)
 ·intro stg_putBind' stg_put' stg_put_l4' Zr7 Zig Zly l_0 e ZvD Znd r hF
  unfold Zie.M nL
  intro Zta ZxG ZxZ hlen120
  refine AWL.step ?_
  refine zbl ZxG ZxZ (fun ZDO ZCq ZAw ZHb hl132 => ?_) (fun ZAw => ?_)
  ·subst ZAw
   refine zsr (Zr (f := Za.cells) (Za.cells_eq ZDO) ZHb) ?_
   obtain ⟨Zfp, ZvP, hF⟩ := bind_some hF
   refine zca [] [] [] (Zr7 _ _ _ ZvP) ?_
   exact znr (rn [(60, 0)]) (Zly _ _ _ _ _ hF _ (zlh ZxG) (zlk ZxZ) hlen120)
  ·subst ZAw
   obtain ⟨Zwz, hx1370, ZHK, hF⟩ := Zlj hF
   obtain ⟨ZEU, hF⟩ := Zx hF
   obtain ⟨ZIj, ZIe, hF⟩ := bind_some hF
   refine zdn [1, 3, 4, 5, 6] [[63, 65, 66, 67, 68], [63, 65, 66, 67, 68], [63, 66, 67, 68], [63, 67, 68], [63, 68]] [3] [3, 63, 65, 66, 67, 68] [63, 65, 66, 67, 68] [0, 2, 7, 8] ?_
   refine de (ZH (f := c_S) (lc Zn) (Zp (f := c_S))) ?_
   refine dp ?_
   refine dp ?_
   refine dr (Zjz (Zj.cells_eq Zwz) ZHK) ?_
   refine dp ?_
   refine zsa (fun l => Zaf l (fun x => Zbb x)) ZEU ?_
   refine ea (WE.refl _) ?_
   rw [← List.map_append]
   refine zcb [] [] [] (rn [(64, 0)]) (Zig _ _ _ ZIe) ?_
   refine st ?_
   exact zjr (rn [(69, 0)]) (ZfL hF)
theorem Zr2 {l b r} (h : Zd4 l b = some r) : Zd4.M l b r := Zrq.1 _ _ _ h

def ZdH (l_3 : (List ByteArray)) (p : Zi) (Zr3 : Nat) (Zjt : (List Za)) : Option (ByteArray) :=
 (match Zjt with
 | x86 :: ZEQ =>
 Zd4 l_3 x86 >>= fun r89 =>
 ZdH r89 p (Zr3 + 1) ZEQ
 | [] =>
 ZaK ((l_3.length + ([(ByteArray.mk #[41])]).length) * 16 ≤ 140737488355328) >>= fun _ =>
 strings_Join (l_3 ++ ([(ByteArray.mk #[41])])) (ByteArray.mk #[32]) >>= fun r91 =>
 some r91)
 partial_fixpoint
def ZdH.M (p : Zi) (l_3 : (List ByteArray)) (Zr3 : Nat) (Zjt : (List Za)) (r : ByteArray) : Prop :=
 ∀ Zsc : List Za, p.fBinds = Zsc ++ Zjt → Zr3 = Zsc.length → p.fCons.length ≤ maxLen → p.fBinds.length ≤ maxLen → nL 49 Tryz.f13 [1, 1, 1, 1, 1, 0, 1, 0] (.c none (.v (.string r))) [] ⟨[(3, .c (some (3, 9)) (.sl (l_3.map c_S))), (35, .c none (.sl (p.fBinds.map Za.cells))), (36, .c none (.v (.int .i64 ((p.fBinds.length : Nat) : Int)))), (37, .c none (.v (.int .i64 ((Zr3 : Nat) : Int))))], []⟩
theorem ZqM (p : Zi) : ∀ l_3 Zr3 Zjt r, ZdH l_3 p Zr3 Zjt = some r → ZdH.M p l_3 Zr3 Zjt r := by
 refine ZdH.partial_correctness p (ZdH.M p) ?_
 intro stg_Print_l2' Zrx l_3 Zr3 Zjt r hF
 unfold ZdH.M nL
 intro Zsc ZxR ZxD hlen33 hlen76
 refine AWL.step ?_
 refine zbl ZxR ZxD (fun x86 ZEQ ZCZ ZIK hl88 => ?_) (fun ZCZ => ?_)
 ·subst ZCZ
  refine zsr (Zr (f := Za.cells) (Za.cells_eq x86) ZIK) ?_
  obtain ⟨r89, ZIE, hF⟩ := bind_some hF
  refine zcb [] [] [] (rn [(3, 0)]) (Zr2 ZIE) ?_
  exact znr (rn [(43, 3)]) (Zrx _ _ _ _ hF _ (zlh ZxR) (zlk ZxD) hlen33 hlen76)
 ·subst ZCZ
  obtain ⟨ZIG, hF⟩ := Zx hF
  obtain ⟨r91, ZJq, hF⟩ := bind_some hF
  refine zgo ?_
  refine ea (ZH (f := c_S) (lc Zn) (Zp (f := c_S))) (zsa (fun l => Zaf l (fun x => Zbb x)) ZIG ?_)
  refine ea (WE.refl _) ?_
  rw [← List.map_append]
  refine zca [47] [] [] (Zro _ _ _ ZJq) ?_
  obtain rfl := Ze hF
  exact zre []
theorem ZrJ {l_3 p Zr3 Zjt r} (h : ZdH l_3 p Zr3 Zjt = some r) : ZdH.M p l_3 Zr3 Zjt r := (ZqM p) _ _ _ _ h

def ZdE (l_3 : (List ByteArray)) (p : Zi) (Zr0 : Nat) (Zjw : (List Zk)) : Option (ByteArray) :=
 (match Zjw with
 | x53 :: ZFs =>
 strconv_Itoa x53.fTag >>= fun r59 =>
 strconv_Itoa x53.fArity >>= fun r60 =>
 ZaK ((l_3.length + ([(ByteArray.mk #[40]), x53.fName, r59, r60, (ByteArray.mk #[41])]).length) * 16 ≤ 140737488355328) >>= fun _ =>
 ZdE (l_3 ++ ([(ByteArray.mk #[40]), x53.fName, r59, r60, (ByteArray.mk #[41])])) p (Zr0 + 1) ZFs
 | [] =>
 ZaK ((l_3.length + ([(ByteArray.mk #[41])]).length) * 16 ≤ 140737488355328) >>= fun _ =>
 ZdH (l_3 ++ ([(ByteArray.mk #[41])])) p 0 p.fBinds)
 partial_fixpoint
def ZdE.M (p : Zi) (l_3 : (List ByteArray)) (Zr0 : Nat) (Zjw : (List Zk)) (r : ByteArray) : Prop :=
 ∀ ZtE : List Zk, p.fCons = ZtE ++ Zjw → Zr0 = ZtE.length → p.fCons.length ≤ maxLen → nL 49 Tryz.f13 [1, 1, 1, 0, 1, 0] (.c none (.v (.string r))) [] ⟨[(1, .ptr 1 0), (3, .c (some (3, 9)) (.sl (l_3.map c_S))), (13, .c none (.sl (p.fCons.map Zk.cells))), (14, .c none (.v (.int .i64 ((p.fCons.length : Nat) : Int)))), (15, .c none (.v (.int .i64 ((Zr0 : Nat) : Int))))], [(1, [(none, .sl (p.fCons.map Zk.cells)), (none, .sl (p.fBinds.map Za.cells))])]⟩
theorem Zqu (p : Zi) : ∀ l_3 Zr0 Zjw r, ZdE l_3 p Zr0 Zjw = some r → ZdE.M p l_3 Zr0 Zjw r := by
 refine ZdE.partial_correctness p (ZdE.M p) ?_
 intro stg_Print_l1' Zrz l_3 Zr0 Zjw r hF
 unfold ZdE.M nL
 intro ZtE Zxh Zx3 hlen33
 refine AWL.step ?_
 refine zbl Zxh Zx3 (fun x53 ZFs ZDi ZJx hl55 => ?_) (fun ZDi => ?_)
 ·subst ZDi
  refine zsr (Zr (f := Zk.cells) (Zk.cells_eq x53) ZJx) ?_
  obtain ⟨r59, ZDp, hF⟩ := bind_some hF
  obtain ⟨r60, ZBm, hF⟩ := bind_some hF
  obtain ⟨ZC1, hF⟩ := Zx hF
  refine zdo 10 [19, 20, 21, 22, 23, 24, 25, 26, 27, 28] [1023, 1023, 1021, 1023, 1015, 999, 1023, 959, 775, 513] ?_
  refine dp ?_
  refine dp ?_
  refine dp ?_
  refine dp ?_
  refine dp ?_
  (refine st ?_; apply Exists.intro; apply Exists.intro; apply an; (focus ((conv => whnf); refine Exists.intro [] ?_; (conv => whnf); refine an rfl ?_; (conv => whnf); refine Zq.mono (Zq.weak (rn []) (Zfy _ _ ZDp) rfl (WS.mk (tc ZcZ) Zc6)) ?_; rintro d b ⟨rfl, rfl⟩; exact an rfl (an rfl rfl))); apply an; (focus exact rfl); (conv => whnf))
  refine dp ?_
  refine dp ?_
  (refine st ?_; apply Exists.intro; apply Exists.intro; apply an; (focus ((conv => whnf); refine Exists.intro [] ?_; (conv => whnf); refine an rfl ?_; (conv => whnf); refine Zq.mono (Zq.weak (rn []) (Zfy _ _ ZBm) rfl (WS.mk (tc ZcZ) Zc6)) ?_; rintro d b ⟨rfl, rfl⟩; exact an rfl (an rfl rfl))); apply an; (focus exact rfl); (conv => whnf))
  refine de (ZH (f := c_S) (lc Zn) (ZH (f := c_S) (lc Zn) (ZH (f := c_S) (lc Zn) (ZH (f := c_S) (lc Zn) (ZH (f := c_S) (lc Zn) (Zp (f := c_S))))))) ?_
  refine zsa (fun l => Zaf l (fun x => Zbb x)) ZC1 ?_
  refine ea (WE.refl _) ?_
  rw [← List.map_append]
  exact znr (rn [(29, 3)]) (Zrz _ _ _ _ hF _ (zlh Zxh) (zlk Zx3) hlen33)
 ·subst ZDi
  obtain ⟨ZIB, hF⟩ := Zx hF
  refine zgo ?_
  refine ea (ZH (f := c_S) (lc Zn) (Zp (f := c_S))) (zsa (fun l => Zaf l (fun x => Zbb x)) ZIB ?_)
  refine ea (WE.refl _) ?_
  rw [← List.map_append]
  refine zln fun hlen76 => ?_
  exact znr (rn [(33, 3)]) (ZrJ hF ([]) rfl rfl hlen33 hlen76)
theorem ZrC {l_3 p Zr0 Zjw r} (h : ZdE l_3 p Zr0 Zjw = some r) : ZdE.M p l_3 Zr0 Zjw r := (Zqu p) _ _ _ _ h

def ZfU (p : Zi) : Option (ByteArray) :=
 ZeF p >>= fun r3 =>
 if (r3 != 0) = true then
 some (ByteArray.mk #[])
 else
 ZdE ([(ByteArray.mk #[40]), (ByteArray.mk #[112, 114, 111, 103, 114, 97, 109]), (ByteArray.mk #[40])]) p 0 p.fCons
def ZfU.M (p : Zi) (r : ByteArray) : Prop :=
 Zq Tryz.prog 13 [.agg [.sl (p.fCons.map Zk.cells), .sl (p.fBinds.map Za.cells)]] [] (fun d b => d = .c none (.v (.string r)) ∧ b = [])
theorem Zqc {p r} (hF : ZfU p = some r) : ZfU.M p r := by
 unfold ZfU at hF
 unfold ZfU.M
 refine en Tryz.func13 ?_
 obtain ⟨r3, hr3, hF⟩ := bind_some hF
 refine zca [] [] [] (Zj5 hr3) ?_
 refine zbr hF (fun hc4 hF => ?_) (fun hc4 hF => ?_)
 ·obtain rfl := Ze hF
  exact zre []
 ·refine zgo ?_
  refine ea (ZH (f := c_S) (lc Zn) (ZH (f := c_S) (lc Zn) (ZH (f := c_S) (lc Zn) (Zp (f := c_S))))) (zln fun hlen33 => ?_)
  exact znr (rn [(11, 3)]) (ZrC hF ([]) rfl rfl hlen33)

def Zax (p : Zc) : Option (ByteArray) :=
 if (decide (p.fat ≥ ((p.fwords.length : Nat) : Int))) = true then
 none
 else
 (ixI p.fwords p.fat) >>= fun x4 =>
 some x4
def Zax.M (p : Zc) (r : ByteArray) : Prop :=
 Zq Tryz.prog 92 [.ptr 1000 0] [(1000, (Zc.bx p))] (fun d b => d = .c none (.v (.string r)) ∧ b = [(1000, (Zc.bx p))])
theorem Zd1 {p r} (hF : Zax p = some r) : Zax.M p r := by
 unfold Zax at hF
 unfold Zax.M
 refine en Tryz.func92 ?_
 refine zdo 9 [3, 4, 5, 6, 7, 8, 9, 10, 11] [511, 510, 508, 504, 511, 495, 463, 399, 271] ?_
 refine dp ?_
 refine dp ?_
 refine dp ?_
 refine dp ?_
 refine dp ?_
 refine dp ?_
 refine dp ?_
 refine dp ?_
 refine dl ?_
 refine zbr hF (fun hc2 hF => ?_) (fun hc2 hF => ?_)
 ·cases hF
 ·obtain ⟨x4, ZDq, hx4, hF⟩ := Zlj hF
  refine zdo 8 [15, 16, 17, 18, 19, 20, 21, 22] [255, 254, 252, 248, 255, 239, 207, 143] ?_
  refine dp ?_
  refine dp ?_
  refine dp ?_
  refine dp ?_
  refine dp ?_
  refine dp ?_
  refine dp ?_
  refine dp ?_
  refine zsr (Zjz (f := c_S) rfl hx4) ?_
  obtain rfl := Ze hF
  exact zre zi1

def Zs (p : Zc) : Option (ByteArray × Zc) :=
 Zax p >>= fun r1 =>
 some (r1, Zc.mk p.fwords (IntKind.i64.wrap (p.fat + 1)) p.fdepth)
def Zs.M (p : Zc) (r : ByteArray × Zc) : Prop :=
 Zq Tryz.prog 93 [.ptr 1000 0] [(1000, (Zc.bx p))] (fun d b => d = .c none (.v (.string r.1)) ∧ b = [(1000, (Zc.bx r.2))])
theorem Za8 {p r} (hF : Zs p = some r) : Zs.M p r := by
 unfold Zs at hF
 unfold Zs.M
 refine en Tryz.func93 ?_
 obtain ⟨r1, hr1, hF⟩ := bind_some hF
 refine zca [] zi1 [] (Zd1 hr1) ?_
 obtain rfl := Ze hF
 exact zre zi1

def ZaZ (p : Zc) : Option (Int × Zc) :=
 Zs p >>= fun r1 =>
 Zed r1.1 >>= fun r2 =>
 if r2.2 = true then
 none
 else
 some (r2.1, r1.2)
def ZaZ.M (p : Zc) (r : Int × Zc) : Prop :=
 Zq Tryz.prog 94 [.ptr 1000 0] [(1000, (Zc.bx p))] (fun d b => d = .c none (.v (.int .i64 r.1)) ∧ b = [(1000, (Zc.bx r.2))])
theorem Zd6 {p r} (hF : ZaZ p = some r) : ZaZ.M p r := by
 unfold ZaZ at hF
 unfold ZaZ.M
 refine en Tryz.func94 ?_
 obtain ⟨r1, hr1, hF⟩ := bind_some hF
 obtain ⟨r2, hr2, hF⟩ := bind_some hF
 refine zca [] zi1 [] (Za8 hr1) ?_
 refine zca [] [] [] (strconv_Atoi_ok _ _ hr2) ?_
 refine zbr hF (fun hc3 hF => ?_) (fun hc3 hF => ?_)
 ·cases hF
 ·obtain rfl := Ze hF
  exact zre zi1

def ZaF (l : (List ByteArray)) (x_8 : Nat) (Zl : Zc) (ZdS : (List ByteArray)) : Option (Zc) :=
 (match ZdS with
 | x13 :: Zrv =>
 Zs Zl >>= fun r16 =>
 if (!(r16.1.toList == x13.toList)) = true then
 none
 else
 ZaF l (x_8 + 1) r16.2 Zrv
 | [] =>
 some Zl)
 partial_fixpoint
def ZaF.M (l : (List ByteArray)) (x_8 : Nat) (Zl : Zc) (ZdS : (List ByteArray)) (r : Zc) : Prop :=
 ∀ ZiM : List ByteArray, l = ZiM ++ ZdS → x_8 = ZiM.length → l.length ≤ maxLen → nL 19 Tryz.f91 [1, 0] (.tup []) [(1000, (Zc.bx r))] ⟨[(0, .ptr 1000 0), (6, .c none (.sl (l.map c_S))), (7, .c none (.v (.int .i64 ((l.length : Nat) : Int)))), (8, .c none (.v (.int .i64 ((x_8 : Nat) : Int))))], [(1000, (Zc.bx Zl))]⟩
theorem Zm3 (l : (List ByteArray)) : ∀ x_8 Zl ZdS r, ZaF l x_8 Zl ZdS = some r → ZaF.M l x_8 Zl ZdS r := by
 refine ZaF.partial_correctness l (ZaF.M l) ?_
 intro stg_parser_want_l1' Znr x_8 Zl ZdS r hF
 unfold ZaF.M nL
 intro ZiM ZmC Zmm hlen1
 refine AWL.step ?_
 refine zbl ZmC Zmm (fun x13 Zrv ZpH ZwM ZDV => ?_) (fun ZpH => ?_)
 ·subst ZpH
  refine zsr (Zr (f := c_S) rfl ZwM) ?_
  obtain ⟨r16, Ztl, hF⟩ := bind_some hF
  refine zca [] zi1 [] (Za8 Ztl) ?_
  refine zbr hF (fun Zfr hF => ?_) (fun Zfr hF => ?_)
  ·cases hF
  ·exact znl (Znr _ _ _ _ hF _ (zlh ZmC) (zlk Zmm) hlen1)
 ·subst ZpH
  obtain rfl := Ze hF
  exact zre zi1
theorem ZnF {l x_8 Zl ZdS r} (h : ZaF l x_8 Zl ZdS = some r) : ZaF.M l x_8 Zl ZdS r := (Zm3 l) _ _ _ _ h

def ZT (p : Zc) (l : (List ByteArray)) : Option (Zc) :=
 ZaF l 0 p l
def ZT.M (p : Zc) (l : (List ByteArray)) (r : Zc) : Prop :=
 Zq Tryz.prog 91 [.ptr 1000 0, .c none (.sl (l.map c_S))] [(1000, (Zc.bx p))] (fun d b => d = .tup [] ∧ b = [(1000, (Zc.bx r))])
theorem ZaS {p l r} (hF : ZT p l = some r) : ZT.M p l r := by
 unfold ZT at hF
 unfold ZT.M
 refine en Tryz.func91 ?_
 refine zln fun hlen1 => ?_
 exact znl (ZnF hF ([]) rfl rfl hlen1)

def Zdu (ZoM : ZJ) (Zl : Zc) : Option (ZJ × Zc) :=
 ZT Zl ([(ByteArray.mk #[41])]) >>= fun r9 =>
 some (ZoM, r9)
def Zdu.M (ZoM : ZJ) (Zl : Zc) (r : ZJ × Zc) : Prop :=
 nP 30 Tryz.f164 [1, 1, 1, 1] (.agg (ZJ.fl r.1)) [(1000, (Zc.bx r.2))] ⟨[(0, .ptr 1000 0), (2, .ptr 2 0), (3, .ptr 3 0)], [(2, [(none, .v (.int .i64 0)), (none, .v (.string (ByteArray.mk #[]))), (none, .v (.int .i64 0))]), (3, (ZJ.bx ZoM)), (1000, (Zc.bx Zl))]⟩
theorem ZgR {ZoM Zl r} (hF : Zdu ZoM Zl = some r) : Zdu.M ZoM Zl r := by
 unfold Zdu at hF
 unfold Zdu.M nP
 obtain ⟨r9, hr9, hF⟩ := bind_some hF
 refine zgo ?_
 refine ea (ZH (f := c_S) (lc Zn) (Zp (f := c_S))) (zca [27] zi1 [] (ZaS hr9) ?_)
 obtain rfl := Ze hF
 exact zre zi1

def Zfx (p : Zc) : Option (ZJ × Zc) :=
 ZT p ([(ByteArray.mk #[40])]) >>= fun r1 =>
 Zs r1 >>= fun r10 =>
 if (r10.1.toList == (ByteArray.mk #[118, 97, 114]).toList) = true then
 Zs r10.2 >>= fun r12 =>
 Zdu (ZJ.mk 1 r12.1 0) r12.2
 else
 if (r10.1.toList == (ByteArray.mk #[105, 110, 116]).toList) = true then
 ZaZ r10.2 >>= fun r14 =>
 Zdu (ZJ.mk 2 (ByteArray.mk #[]) r14.1) r14.2
 else
 if (r10.1.toList == (ByteArray.mk #[99, 104, 97, 114]).toList) = true then
 ZaZ r10.2 >>= fun r16 =>
 Zdu (ZJ.mk 3 (ByteArray.mk #[]) r16.1) r16.2
 else
 none
def Zfx.M (p : Zc) (r : ZJ × Zc) : Prop :=
 Zq Tryz.prog 164 [.ptr 1000 0] [(1000, (Zc.bx p))] (fun d b => d = .agg (ZJ.fl r.1) ∧ b = [(1000, (Zc.bx r.2))])
theorem ZpC {p r} (hF : Zfx p = some r) : Zfx.M p r := by
 unfold Zfx at hF
 unfold Zfx.M
 refine en Tryz.func164 ?_
 obtain ⟨r1, hr1, hF⟩ := bind_some hF
 refine zgo ?_
 refine ea (ZH (f := c_S) (lc Zn) (Zp (f := c_S))) (zca [5] zi1 [] (ZaS hr1) ?_)
 obtain ⟨r10, ZuQ, hF⟩ := bind_some hF
 refine zca [] zi1 [] (Za8 ZuQ) ?_
 refine zbr hF (fun Zeo hF => ?_) (fun Zeo hF => ?_)
 ·obtain ⟨r12, Zw2, hF⟩ := bind_some hF
  refine zca [] zi1 [] (Za8 Zw2) ?_
  refine st ?_
  exact zja (ZgR hF)
 ·refine zbr hF (fun Zir hF => ?_) (fun Zir hF => ?_)
  ·obtain ⟨r14, Zqn, hF⟩ := bind_some hF
   refine zca [] zi1 [] (Zd6 Zqn) ?_
   refine st ?_
   exact zja (ZgR hF)
  ·refine zbr hF (fun Zp1 hF => ?_) (fun Zp1 hF => ?_)
   ·obtain ⟨r16, Ztl, hF⟩ := bind_some hF
    refine zca [] zi1 [] (Zd6 Ztl) ?_
    refine st ?_
    exact zja (ZgR hF)
   ·cases hF

def ZbZ (Zad : (List ZJ)) (Zl : Zc) : Option ((List ZJ) × Zc) :=
 Zax Zl >>= fun r15 =>
 if (r15.toList == (ByteArray.mk #[40]).toList) = true then
 Zfx Zl >>= fun r17 =>
 ZaK ((Zad.length + ([r17.1]).length) * 32 ≤ 140737488355328) >>= fun _ =>
 ZbZ (Zad ++ ([r17.1])) r17.2
 else
 some (Zad, Zl)
 partial_fixpoint
def ZbZ.M (Zad : (List ZJ)) (Zl : Zc) (r : (List ZJ) × Zc) : Prop :=
 nL 13 Tryz.f144 [1, 1, 0, 0] (.c (some (0, 49)) (.sl (r.1.map ZJ.cells))) [(1000, (Zc.bx r.2))] ⟨[(0, .ptr 1000 0), (3, .c (some (3, 49)) (.sl (Zad.map ZJ.cells)))], [(1000, (Zc.bx Zl))]⟩
theorem ZlW : ∀ Zad Zl r, ZbZ Zad Zl = some r → ZbZ.M Zad Zl r := by
 refine ZbZ.partial_correctness ZbZ.M ?_
 intro stg_parser_atoms_l1' ZmF Zad Zl r hF
 unfold ZbZ.M nL
 refine AWL.step ?_
 obtain ⟨r15, Zw5, hF⟩ := bind_some hF
 refine zca [] zi1 [] (Zd1 Zw5) ?_
 refine zbr hF (fun ZkT hF => ?_) (fun ZkT hF => ?_)
 ·obtain ⟨r17, Zt1, hF⟩ := bind_some hF
  obtain ⟨ZIW, hF⟩ := Zx hF
  refine zca [] zi1 [] (ZpC Zt1) ?_
  refine zgo ?_
  refine ea (ZH (f := ZJ.cells) (ZpY (ZJ.cells_eq r17.1) (lc (lc (lc Zn)))) (Zp (f := ZJ.cells))) (zsa (fun l => Zaf l (fun x => ZJ.cells_len x)) ZIW ?_)
  refine ea (WE.refl _) ?_
  rw [← List.map_append]
  exact znr (rn [(11, 3)]) (ZmF _ _ _ hF)
 ·obtain rfl := Ze hF
  exact zrg zi1 (rn [(3, 0)])
theorem ZmZ {Zad Zl r} (h : ZbZ Zad Zl = some r) : ZbZ.M Zad Zl r := ZlW _ _ _ h

def Zcu (p : Zc) : Option ((List ZJ) × Zc) :=
 ZbZ ([]) p
def Zcu.M (p : Zc) (r : (List ZJ) × Zc) : Prop :=
 Zq Tryz.prog 144 [.ptr 1000 0] [(1000, (Zc.bx p))] (fun d b => d = .c (some (0, 49)) (.sl (r.1.map ZJ.cells)) ∧ b = [(1000, (Zc.bx r.2))])
theorem ZfR {p r} (hF : Zcu p = some r) : Zcu.M p r := by
 unfold Zcu at hF
 unfold Zcu.M
 refine en Tryz.func144 ?_
 exact znl (ZmZ hF)

def ZbA (Zh7 : Zj) (Zl : Zc) : Option (Zj × Zc) :=
 ZT Zl ([(ByteArray.mk #[41])]) >>= fun ZBW =>
 some (Zh7, Zc.mk ZBW.fwords ZBW.fat (IntKind.i64.wrap (ZBW.fdepth - 1)))
def ZbA.M (Zh7 : Zj) (Zl : Zc) (r : Zj × Zc) : Prop :=
 nP 109 Tryz.f127 [1, 1, 1, 1, 1] (.agg (Zj.fl r.1)) [(1000, (Zc.bx r.2))] ⟨[(0, .ptr 1000 0), (2, .ptr 2 0), (3, .ptr 3 0)], [(2, [(none, .v (.int .i64 0)), (none, .v (.string (ByteArray.mk #[]))), (none, .nils), (none, .v (.bool false)), (none, .nils), (none, .nils), (none, .nils)]), (3, [(none, .v (.int .i64 Zh7.fOp)), (none, .v (.string Zh7.fName)), (none, .sl (Zh7.fArgs.map ZJ.cells)), (none, .v (.bool Zh7.fRec)), ((some (4154, 57)), .sl (Zh7.fBinds.map Za.cells)), (none, .sl (Zh7.fKids.map Zj.cells)), ((some (4156, 52)), .sl (Zh7.fAlts.map Zf.cells))]), (1000, (Zc.bx Zl))]⟩
theorem ZdQ {Zh7 Zl r} (hF : ZbA Zh7 Zl = some r) : ZbA.M Zh7 Zl r := by
 unfold ZbA at hF
 unfold ZbA.M nP
 obtain ⟨ZBW, ZHa, hF⟩ := bind_some hF
 refine zgo ?_
 refine ea (ZH (f := c_S) (lc Zn) (Zp (f := c_S))) (zca [99] zi1 [] (ZaS ZHa) ?_)
 obtain rfl := Ze hF
 exact zre zi1

def Zb3 (Zad : (List ByteArray)) (Zl : Zc) : Option ((List ByteArray) × Zc) :=
 Zax Zl >>= fun r34 =>
 if (!(r34.toList == (ByteArray.mk #[41]).toList)) = true then
 Zs Zl >>= fun r36 =>
 ZaK ((Zad.length + ([r36.1]).length) * 16 ≤ 140737488355328) >>= fun _ =>
 Zb3 (Zad ++ ([r36.1])) r36.2
 else
 ZT Zl ([(ByteArray.mk #[41])]) >>= fun r38 =>
 some (Zad, r38)
 partial_fixpoint
def Zb3.M (Zad : (List ByteArray)) (Zl : Zc) (r : (List ByteArray) × Zc) : Prop :=
 nL 19 Tryz.f126 [1, 1, 1, 0, 0] (.c (some (0, 9)) (.sl (r.1.map c_S))) [(1000, (Zc.bx r.2))] ⟨[(0, .ptr 1000 0), (3, .c (some (3, 9)) (.sl (Zad.map c_S)))], [(1000, (Zc.bx Zl))]⟩
theorem Zmb : ∀ Zad Zl r, Zb3 Zad Zl = some r → Zb3.M Zad Zl r := by
 refine Zb3.partial_correctness Zb3.M ?_
 intro stg_parser_names_l1' Zml Zad Zl r hF
 unfold Zb3.M nL
 refine AWL.step ?_
 obtain ⟨r34, ZJ6, hF⟩ := bind_some hF
 refine zca [] zi1 [] (Zd1 ZJ6) ?_
 refine zbr hF (fun Zva hF => ?_) (fun Zva hF => ?_)
 ·obtain ⟨r36, ZJj, hF⟩ := bind_some hF
  obtain ⟨ZD7, hF⟩ := Zx hF
  refine zca [] zi1 [] (Za8 ZJj) ?_
  refine zgo ?_
  refine ea (ZH (f := c_S) (lc Zn) (Zp (f := c_S))) (zsa (fun l => Zaf l (fun x => Zbb x)) ZD7 ?_)
  refine ea (WE.refl _) ?_
  rw [← List.map_append]
  exact znr (rn [(14, 3)]) (Zml _ _ _ hF)
 ·obtain ⟨r38, ZCG, hF⟩ := bind_some hF
  refine zgo ?_
  refine ea (ZH (f := c_S) (lc Zn) (Zp (f := c_S))) (zca [16] zi1 [] (ZaS ZCG) ?_)
  obtain rfl := Ze hF
  exact zrg zi1 (rn [(3, 0)])
theorem Zmw {Zad Zl r} (h : Zb3 Zad Zl = some r) : Zb3.M Zad Zl r := Zmb _ _ _ h

def ZcS (p : Zc) : Option ((List ByteArray) × Zc) :=
 ZT p ([(ByteArray.mk #[40])]) >>= fun r1 =>
 Zb3 ([]) r1
def ZcS.M (p : Zc) (r : (List ByteArray) × Zc) : Prop :=
 Zq Tryz.prog 126 [.ptr 1000 0] [(1000, (Zc.bx p))] (fun d b => d = .c (some (0, 9)) (.sl (r.1.map c_S)) ∧ b = [(1000, (Zc.bx r.2))])
theorem ZhO {p r} (hF : ZcS p = some r) : ZcS.M p r := by
 unfold ZcS at hF
 unfold ZcS.M
 refine en Tryz.func126 ?_
 obtain ⟨r1, hr1, hF⟩ := bind_some hF
 refine zgo ?_
 refine ea (ZH (f := c_S) (lc Zn) (Zp (f := c_S))) (zca [5] zi1 [] (ZaS hr1) ?_)
 exact znl (Zmw hF)

mutual
def ZcP (p : Zc) : Option (Za × Zc) :=
 ZT p ([(ByteArray.mk #[40])]) >>= fun r1 =>
 Zs r1 >>= fun r14 =>
 if (r14.1.toList == (ByteArray.mk #[102, 117, 110]).toList) = true then
 Zc2 1 r14.2
 else
 if (r14.1.toList == (ByteArray.mk #[116, 104, 117, 110, 107]).toList) = true then
 Zc2 2 r14.2
 else
 if (r14.1.toList == (ByteArray.mk #[99, 111, 110]).toList) = true then
 Zc2 3 r14.2
 else
 none
 partial_fixpoint
def Zc2 (ZjI : Nat) (Zl : Zc) : Option (Za × Zc) :=
 Zs Zl >>= fun r6 =>
 ZcS r6.2 >>= fun r7 =>
 if (((ZjI : Nat) : Int) == 1) = true then
 ZcS r7.2 >>= fun r13 =>
 Zc1 r6 ZjI r7 r13.1 r13.2
 else
 Zc1 r6 ZjI r7 ([]) r7.2
 partial_fixpoint
def Zc1 (r6 : (ByteArray × Zc)) (ZjI : Nat) (r7 : ((List ByteArray) × Zc)) (Zsv : (List ByteArray)) (Zl : Zc) : Option (Za × Zc) :=
 Zdc Zl >>= fun r10 =>
 ZT r10.2 ([(ByteArray.mk #[41])]) >>= fun r11 =>
 some (Za.mk r6.1 ((ZjI : Nat) : Int) r7.1 Zsv r10.1, r11)
 partial_fixpoint
def Zdc (p : Zc) : Option (Zj × Zc) :=
 if (decide ((IntKind.i64.wrap (p.fdepth + 1)) > 4000)) = true then
 none
 else
 ZT (Zc.mk p.fwords p.fat (IntKind.i64.wrap (p.fdepth + 1))) ([(ByteArray.mk #[40])]) >>= fun r3 =>
 Zs r3 >>= fun Zfp =>
 if (Zfp.1.toList == (ByteArray.mk #[97, 116, 111, 109]).toList) = true then
 Zcu Zfp.2 >>= fun ZyM =>
 ZbA (Zj.mk 1 (ByteArray.mk #[]) ZyM.1 false ([] : List Za) ([] : List Zj) ([] : List Zf)) ZyM.2
 else
 if (Zfp.1.toList == (ByteArray.mk #[97, 112, 112]).toList) = true then
 Zs Zfp.2 >>= fun ZDu =>
 Zcu ZDu.2 >>= fun ZEq =>
 ZbA (Zj.mk 2 ZDu.1 ZEq.1 false ([] : List Za) ([] : List Zj) ([] : List Zf)) ZEq.2
 else
 if (Zfp.1.toList == (ByteArray.mk #[99, 111, 110]).toList) = true then
 Zs Zfp.2 >>= fun ZyA =>
 Zcu ZyA.2 >>= fun ZEo =>
 ZbA (Zj.mk 3 ZyA.1 ZEo.1 false ([] : List Za) ([] : List Zj) ([] : List Zf)) ZEo.2
 else
 if (Zfp.1.toList == (ByteArray.mk #[112, 114, 105, 109]).toList) = true then
 Zs Zfp.2 >>= fun Zwk =>
 Zcu Zwk.2 >>= fun ZEu =>
 ZbA (Zj.mk 4 Zwk.1 ZEu.1 false ([] : List Za) ([] : List Zj) ([] : List Zf)) ZEu.2
 else
 if (Zfp.1.toList == (ByteArray.mk #[108, 101, 116]).toList) = true then
 ZdW Zfp (Zfp.1.toList == (ByteArray.mk #[108, 101, 116]).toList)
 else
 ZdW Zfp (Zfp.1.toList == (ByteArray.mk #[108, 101, 116, 114, 101, 99]).toList)
 partial_fixpoint
def ZdW (Zfp : (ByteArray × Zc)) (ZwY : Bool) : Option (Zj × Zc) :=
 if ZwY = true then
 ZdX Zfp ([]) Zfp.2
 else
 if (Zfp.1.toList == (ByteArray.mk #[99, 97, 115, 101]).toList) = true then
 Zdc Zfp.2 >>= fun ZqL =>
 Zs ZqL.2 >>= fun Zrn =>
 ZdZ Zrn ZqL ([]) Zrn.2
 else
 none
 partial_fixpoint
def ZdZ (Zrn : (ByteArray × Zc)) (ZqL : (Zj × Zc)) (ZpL : (List Zf)) (Zl : Zc) : Option (Zj × Zc) :=
 Zax Zl >>= fun ZIa =>
 if (ZIa.toList == (ByteArray.mk #[40]).toList) = true then
 ZfZ Zl >>= fun ZAq =>
 ZaK ((ZpL.length + ([ZAq.1]).length) * 184 ≤ 140737488355328) >>= fun _ =>
 ZdZ Zrn ZqL (ZpL ++ ([ZAq.1])) ZAq.2
 else
 ZbA (Zj.mk 6 Zrn.1 ([] : List ZJ) false ([] : List Za) ([ZqL.1]) ZpL) Zl
 partial_fixpoint
def ZfZ (p : Zc) : Option (Zf × Zc) :=
 ZT p ([(ByteArray.mk #[40])]) >>= fun r1 =>
 Zs r1 >>= fun r13 =>
 if (r13.1.toList == (ByteArray.mk #[97, 108, 116]).toList) = true then
 Zs r13.2 >>= fun r15 =>
 ZcS r15.2 >>= fun r16 =>
 Zdk 1 r15.1 0 r16.1 r16.2
 else
 if (r13.1.toList == (ByteArray.mk #[105, 110, 116]).toList) = true then
 ZaZ r13.2 >>= fun r18 =>
 Zdk 2 (ByteArray.mk #[]) r18.1 ([]) r18.2
 else
 if (r13.1.toList == (ByteArray.mk #[99, 104, 97, 114]).toList) = true then
 ZaZ r13.2 >>= fun r20 =>
 Zdk 3 (ByteArray.mk #[]) r20.1 ([]) r20.2
 else
 if (r13.1.toList == (ByteArray.mk #[100, 101, 102, 97, 117, 108, 116]).toList) = true then
 Zdk 4 (ByteArray.mk #[]) 0 ([]) r13.2
 else
 none
 partial_fixpoint
def Zdk (Zsi : Nat) (Zs6 : ByteArray) (Ztm : Int) (ZsX : (List ByteArray)) (Zl : Zc) : Option (Zf × Zc) :=
 Zdc Zl >>= fun r11 =>
 ZT r11.2 ([(ByteArray.mk #[41])]) >>= fun r12 =>
 some (Zf.mk ((Zsi : Nat) : Int) Zs6 Ztm ZsX r11.1, r12)
 partial_fixpoint
def ZdX (Zfp : (ByteArray × Zc)) (ZpO : (List Za)) (Zl : Zc) : Option (Zj × Zc) :=
 Zax Zl >>= fun ZH4 =>
 if (ZH4.toList == (ByteArray.mk #[40]).toList) = true then
 ZcP Zl >>= fun Zy6 =>
 ZaK ((ZpO.length + ([Zy6.1]).length) * 200 ≤ 140737488355328) >>= fun _ =>
 ZdX Zfp (ZpO ++ ([Zy6.1])) Zy6.2
 else
 ZT Zl ([(ByteArray.mk #[105, 110])]) >>= fun ZHW =>
 Zdc ZHW >>= fun ZBD =>
 ZbA (Zj.mk 5 (ByteArray.mk #[]) ([] : List ZJ) (Zfp.1.toList == (ByteArray.mk #[108, 101, 116, 114, 101, 99]).toList) ZpO ([ZBD.1]) ([] : List Zf)) ZBD.2
 partial_fixpoint
end
def ZcP.M (p : Zc) (r : Za × Zc) : Prop :=
 Zq Tryz.prog 95 [.ptr 1000 0] [(1000, (Zc.bx p))] (fun d b => d = .agg (Za.fl r.1) ∧ b = [(1000, (Zc.bx r.2))])
def Zc2.M (ZjI : Nat) (Zl : Zc) (r : Za × Zc) : Prop :=
 nP 39 Tryz.f95 [1, 1, 1, 1] (.agg (Za.fl r.1)) [(1000, (Zc.bx r.2))] ⟨[(0, .ptr 1000 0), (2, .ptr 2 0), (3, .ptr 3 0)], [(2, [(none, .v (.string (ByteArray.mk #[]))), (none, .v (.int .i64 0)), (none, .nils), (none, .nils), (none, .v (.int .i64 0)), (none, .v (.string (ByteArray.mk #[]))), (none, .nils), (none, .v (.bool false)), (none, .nils), (none, .nils), (none, .nils)]), (3, [(none, .v (.string (ByteArray.mk #[]))), (none, .v (.int .i64 ((ZjI : Nat) : Int))), (none, .nils), (none, .nils), (none, .v (.int .i64 0)), (none, .v (.string (ByteArray.mk #[]))), (none, .nils), (none, .v (.bool false)), (none, .nils), (none, .nils), (none, .nils)]), (1000, (Zc.bx Zl))]⟩
def Zc1.M (r6 : (ByteArray × Zc)) (ZjI : Nat) (r7 : ((List ByteArray) × Zc)) (Zsv : (List ByteArray)) (Zl : Zc) (r : Za × Zc) : Prop :=
 nP 39 Tryz.f95 [1, 1, 1, 1, 1, 1, 1] (.agg (Za.fl r.1)) [(1000, (Zc.bx r.2))] ⟨[(0, .ptr 1000 0), (2, .ptr 2 0), (3, .ptr 3 0)], [(2, [(none, .v (.string (ByteArray.mk #[]))), (none, .v (.int .i64 0)), (none, .nils), (none, .nils), (none, .v (.int .i64 0)), (none, .v (.string (ByteArray.mk #[]))), (none, .nils), (none, .v (.bool false)), (none, .nils), (none, .nils), (none, .nils)]), (3, [(none, .v (.string r6.1)), (none, .v (.int .i64 ((ZjI : Nat) : Int))), (none, .sl (r7.1.map c_S)), (none, .sl (Zsv.map c_S)), (none, .v (.int .i64 0)), (none, .v (.string (ByteArray.mk #[]))), (none, .nils), (none, .v (.bool false)), (none, .nils), (none, .nils), (none, .nils)]), (1000, (Zc.bx Zl))]⟩
def Zdc.M (p : Zc) (r : Zj × Zc) : Prop :=
 Zq Tryz.prog 127 [.ptr 1000 0] [(1000, (Zc.bx p))] (fun d b => d = .agg (Zj.fl r.1) ∧ b = [(1000, (Zc.bx r.2))])
def ZdW.M (Zfp : (ByteArray × Zc)) (ZwY : Bool) (r : Zj × Zc) : Prop :=
 nP 109 Tryz.f127 [1, 1, 1, 1, 0, 1, 1, 0, 1, 1, 1, 1, 1, 1, 1, 1, 1] (.agg (Zj.fl r.1)) [(1000, (Zc.bx r.2))] ⟨[(0, .ptr 1000 0), (2, .ptr 2 0), (3, .ptr 3 0), (4, .c none (.v (.string Zfp.1))), (24, .c none (.v (.string Zfp.1))), (56, .c none (.v (.bool ZwY)))], [(2, [(none, .v (.int .i64 0)), (none, .v (.string (ByteArray.mk #[]))), (none, .nils), (none, .v (.bool false)), (none, .nils), (none, .nils), (none, .nils)]), (3, [(none, .v (.int .i64 0)), (none, .v (.string (ByteArray.mk #[]))), (none, .nils), (none, .v (.bool false)), (none, .nils), (none, .nils), (none, .nils)]), (1000, (Zc.bx Zfp.2))]⟩
def ZdZ.M (Zrn : (ByteArray × Zc)) (ZqL : (Zj × Zc)) (ZpL : (List Zf)) (Zl : Zc) (r : Zj × Zc) : Prop :=
 nL 109 Tryz.f127 [1, 1, 1, 1, 0, 1, 1, 0, 1, 1, 1, 1, 1, 1, 1, 1, 1, 1, 1, 0, 1, 1, 0] (.agg (Zj.fl r.1)) [(1000, (Zc.bx r.2))] ⟨[(0, .ptr 1000 0), (2, .ptr 2 0), (3, .ptr 3 0)], [(2, [(none, .v (.int .i64 0)), (none, .v (.string (ByteArray.mk #[]))), (none, .nils), (none, .v (.bool false)), (none, .nils), (none, .nils), (none, .nils)]), (3, [(none, .v (.int .i64 6)), (none, .v (.string Zrn.1)), (none, .nils), (none, .v (.bool false)), (none, .nils), (none, .sl (([ZqL.1]).map Zj.cells)), ((some (4156, 52)), .sl (ZpL.map Zf.cells))]), (1000, (Zc.bx Zl))]⟩
def ZfZ.M (p : Zc) (r : Zf × Zc) : Prop :=
 Zq Tryz.prog 145 [.ptr 1000 0] [(1000, (Zc.bx p))] (fun d b => d = .agg (Zf.fl r.1) ∧ b = [(1000, (Zc.bx r.2))])
def Zdk.M (Zsi : Nat) (Zs6 : ByteArray) (Ztm : Int) (ZsX : (List ByteArray)) (Zl : Zc) (r : Zf × Zc) : Prop :=
 nP 39 Tryz.f145 [1, 1, 1, 1] (.agg (Zf.fl r.1)) [(1000, (Zc.bx r.2))] ⟨[(0, .ptr 1000 0), (2, .ptr 2 0), (3, .ptr 3 0)], [(2, [(none, .v (.int .i64 0)), (none, .v (.string (ByteArray.mk #[]))), (none, .v (.int .i64 0)), (none, .nils), (none, .v (.int .i64 0)), (none, .v (.string (ByteArray.mk #[]))), (none, .nils), (none, .v (.bool false)), (none, .nils), (none, .nils), (none, .nils)]), (3, [(none, .v (.int .i64 ((Zsi : Nat) : Int))), (none, .v (.string Zs6)), (none, .v (.int .i64 Ztm)), (none, .sl (ZsX.map c_S)), (none, .v (.int .i64 0)), (none, .v (.string (ByteArray.mk #[]))), (none, .nils), (none, .v (.bool false)), (none, .nils), (none, .nils), (none, .nils)]), (1000, (Zc.bx Zl))]⟩
def ZdX.M (Zfp : (ByteArray × Zc)) (ZpO : (List Za)) (Zl : Zc) (r : Zj × Zc) : Prop :=
 nL 109 Tryz.f127 [1, 1, 1, 1, 0, 1, 1, 0, 1, 1, 1, 1, 1, 1, 1, 1, 1, 0, 1, 0, 0] (.agg (Zj.fl r.1)) [(1000, (Zc.bx r.2))] ⟨[(0, .ptr 1000 0), (2, .ptr 2 0), (3, .ptr 3 0)], [(2, [(none, .v (.int .i64 0)), (none, .v (.string (ByteArray.mk #[]))), (none, .nils), (none, .v (.bool false)), (none, .nils), (none, .nils), (none, .nils)]), (3, [(none, .v (.int .i64 5)), (none, .v (.string (ByteArray.mk #[]))), (none, .nils), (none, .v (.bool (Zfp.1.toList == (ByteArray.mk #[108, 101, 116, 114, 101, 99]).toList))), ((some (4154, 57)), .sl (ZpO.map Za.cells)), (none, .nils), (none, .nils)]), (1000, (Zc.bx Zl))]⟩
theorem ZoW : (∀ p r, ZcP p = some r → ZcP.M p r) ∧ (∀ ZjI Zl r, Zc2 ZjI Zl = some r → Zc2.M ZjI Zl r) ∧ (∀ r6 ZjI r7 Zsv Zl r, Zc1 r6 ZjI r7 Zsv Zl = some r → Zc1.M r6 ZjI r7 Zsv Zl r) ∧ (∀ p r, Zdc p = some r → Zdc.M p r) ∧ (∀ Zfp ZwY r, ZdW Zfp ZwY = some r → ZdW.M Zfp ZwY r) ∧ (∀ Zrn ZqL ZpL Zl r, ZdZ Zrn ZqL ZpL Zl = some r → ZdZ.M Zrn ZqL ZpL Zl r) ∧ (∀ p r, ZfZ p = some r → ZfZ.M p r) ∧ (∀ Zsi Zs6 Ztm ZsX Zl r, Zdk Zsi Zs6 Ztm ZsX Zl = some r → Zdk.M Zsi Zs6 Ztm ZsX Zl r) ∧ (∀ Zfp ZpO Zl r, ZdX Zfp ZpO Zl = some r → ZdX.M Zfp ZpO Zl r) := by
 refine ZcP.mutual_partial_correctness ZcP.M Zc2.M Zc1.M Zdc.M ZdW.M ZdZ.M ZfZ.M Zdk.M ZdX.M ?_ ?_ ?_ ?_ ?_ ?_ ?_ ?_ ?_
 ·intro stg_parser_bind_k1' Zgz p r hF
  unfold ZcP.M
  refine en Tryz.func95 ?_
  obtain ⟨r1, hr1, hF⟩ := bind_some hF
  refine zgo ?_
  refine ea (ZH (f := c_S) (lc Zn) (Zp (f := c_S))) (zca [5] zi1 [] (ZaS hr1) ?_)
  obtain ⟨r14, Zqn, hF⟩ := bind_some hF
  refine zca [] zi1 [] (Za8 Zqn) ?_
  refine zbr hF (fun Zp1 hF => ?_) (fun Zp1 hF => ?_)
  ·refine ns ?_
   exact zja (Zgz _ _ _ hF)
  ·refine zbr hF (fun ZkT hF => ?_) (fun ZkT hF => ?_)
   ·refine ns ?_
    exact zja (Zgz _ _ _ hF)
   ·refine zbr hF (fun Zfr hF => ?_) (fun Zfr hF => ?_)
    ·refine ns ?_
     exact zja (Zgz _ _ _ hF)
    ·cases hF
 ·intro stg_parser_bind_k2' ZiZ ZjI Zl r hF
  unfold Zc2.M nP
  obtain ⟨r6, hr6, hF⟩ := bind_some hF
  refine zca [] zi1 [] (Za8 hr6) ?_
  obtain ⟨r7, hr7, hF⟩ := bind_some hF
  refine zca [] zi1 [] (ZhO hr7) ?_
  refine zbr hF (fun Zfl hF => ?_) (fun Zfl hF => ?_)
  ·obtain ⟨r13, Zw6, hF⟩ := bind_some hF
   refine zca [] zi1 [] (ZhO Zw6) ?_
   refine st ?_
   exact zja (ZiZ _ _ _ _ _ _ hF)
  ·refine nw ?_
   exact zja (ZiZ _ _ _ _ _ _ hF)
 ·intro stg_parser_expr' Zd2 r6 ZjI r7 Zsv Zl r hF
  unfold Zc1.M nP
  obtain ⟨r10, ZuQ, hF⟩ := bind_some hF
  refine zca [] zi1 [] (Zd2 _ _ ZuQ) ?_
  obtain ⟨r11, Zu6, hF⟩ := bind_some hF
  refine zgo ?_
  refine ea (ZH (f := c_S) (lc Zn) (Zp (f := c_S))) (zca [36] zi1 [] (ZaS Zu6) ?_)
  obtain rfl := Ze hF
  exact zre zi1
 ·intro stg_parser_expr_k2' ZiX p r hF
  unfold Zdc.M
  refine en Tryz.func127 ?_
  refine zbr hF (fun hc2 hF => ?_) (fun hc2 hF => ?_)
  ·cases hF
  ·obtain ⟨r3, hr3, hF⟩ := bind_some hF
   refine zgo ?_
   refine ea (ZH (f := c_S) (lc Zn) (Zp (f := c_S))) (zca [20] zi1 [] (ZaS hr3) ?_)
   obtain ⟨Zfp, ZvP, hF⟩ := bind_some hF
   refine zca [] zi1 [] (Za8 ZvP) ?_
   refine zbr hF (fun ZFd hF => ?_) (fun ZFd hF => ?_)
   ·obtain ⟨ZyM, Zze, hF⟩ := bind_some hF
    refine zca [] zi1 [] (ZfR Zze) ?_
    refine st ?_
    exact zja (ZdQ hF)
   ·refine zbr hF (fun ZF0 hF => ?_) (fun ZF0 hF => ?_)
    ·obtain ⟨ZDu, ZFS, hF⟩ := bind_some hF
     refine zca [] zi1 [] (Za8 ZFS) ?_
     obtain ⟨ZEq, ZFZ, hF⟩ := bind_some hF
     refine zca [] zi1 [] (ZfR ZFZ) ?_
     refine st ?_
     exact zja (ZdQ hF)
    ·refine zbr hF (fun ZGP hF => ?_) (fun ZGP hF => ?_)
     ·obtain ⟨ZyA, ZA9, hF⟩ := bind_some hF
      refine zca [] zi1 [] (Za8 ZA9) ?_
      obtain ⟨ZEo, ZHY, hF⟩ := bind_some hF
      refine zca [] zi1 [] (ZfR ZHY) ?_
      refine st ?_
      exact zja (ZdQ hF)
     ·refine zbr hF (fun ZGn hF => ?_) (fun ZGn hF => ?_)
      ·obtain ⟨Zwk, ZBg, hF⟩ := bind_some hF
       refine zca [] zi1 [] (Za8 ZBg) ?_
       obtain ⟨ZEu, ZGt, hF⟩ := bind_some hF
       refine zca [] zi1 [] (ZfR ZGt) ?_
       refine st ?_
       exact zja (ZdQ hF)
      ·refine zbr hF (fun ZHT hF => ?_) (fun ZHT hF => ?_)
       ·refine nw ?_
        exact zja (ZiX _ _ _ hF)
       ·refine ns ?_
        exact zja (ZiX _ _ _ hF)
 ·intro stg_parser_expr' stg_parser_expr_l4' stg_parser_expr_l3' Zd2 ZgM ZgF Zfp ZwY r hF
  unfold ZdW.M nP
  refine zbr hF (fun ZFI hF => ?_) (fun ZFI hF => ?_)
  ·exact znl (ZgF _ _ _ _ hF)
  ·refine zbr hF (fun ZGu hF => ?_) (fun ZGu hF => ?_)
   ·obtain ⟨ZqL, ZGa, hF⟩ := bind_some hF
    refine zca [] zi1 [] (Zd2 _ _ ZGa) ?_
    refine zgo ?_
    refine ea (ZH (f := Zj.cells) (ZpY (Zj.cells_eq ZqL.1) (lc (lc (lc (lc (lc (lc (lc Zn)))))))) (Zp (f := Zj.cells))) ?_
    obtain ⟨Zrn, ZGT, hF⟩ := bind_some hF
    refine zca [] zi1 [] (Za8 ZGT) ?_
    exact znl (ZgM _ _ _ _ _ hF)
   ·cases hF
 ·intro stg_parser_expr_l4' stg_parser_alt' ZgM Zp8 Zrn ZqL ZpL Zl r hF
  unfold ZdZ.M nL
  refine AWL.step ?_
  obtain ⟨ZIa, ZGM, hF⟩ := bind_some hF
  refine zca [] zi1 [] (Zd1 ZGM) ?_
  refine zbr hF (fun ZFC hF => ?_) (fun ZFC hF => ?_)
  ·obtain ⟨ZAq, ZGD, hF⟩ := bind_some hF
   obtain ⟨ZIq, hF⟩ := Zx hF
   refine zgo ?_
   refine Or.inl (Or.inl (Exists.intro 5 (Exists.intro [[], [], [], [1000], []] (Exists.intro [([91, 92, 93, 94, 95], [1000], []), ([92, 93, 94, 95], [1000], []), ([91, 92, 93, 94, 95], [], []), ([91, 92, 94, 95], [], [1000]), ([91, 92, 95], [], [])] (Exists.intro [91, 92, 93, 94, 95] (an (by decide +kernel) ?_))))))
   refine dp ?_
   refine dp ?_
   refine dp ?_
   (refine st ?_; apply Exists.intro; apply Exists.intro; apply an; (focus ((conv => whnf); refine Exists.intro [(1000, 1000)] ?_; (conv => whnf); refine an rfl ?_; (conv => whnf); refine Zq.mono (Zq.weak (rn []) (Zp8 _ _ ZGD) rfl (WS.mk (tp ZcZ) (ZcN rfl (cc (cc (cc ZcA))) Zc6))) ?_; rintro d b ⟨rfl, rfl⟩; exact an rfl (an rfl rfl))); apply an; (focus exact rfl); (conv => whnf))
   refine de (ZH (f := Zf.cells) (ZpY (Zf.cells_eq ZAq.1) (lc (lc (lc (lc (lc (lc (lc (lc (lc (lc (lc Zn)))))))))))) (Zp (f := Zf.cells))) ?_
   refine zsa (fun l => Zaf l (fun x => Zf.cells_len x)) ZIq ?_
   refine ea (WE.refl _) ?_
   rw [← List.map_append]
   exact znr (rn [(96, 4156)]) (ZgM _ _ _ _ _ hF)
  ·refine nw ?_
   exact zja (ZdQ hF)
 ·intro stg_parser_alt_k1' Zfz p r hF
  unfold ZfZ.M
  refine en Tryz.func145 ?_
  obtain ⟨r1, hr1, hF⟩ := bind_some hF
  refine zgo ?_
  refine ea (ZH (f := c_S) (lc Zn) (Zp (f := c_S))) (zca [5] zi1 [] (ZaS hr1) ?_)
  obtain ⟨r13, Zw6, hF⟩ := bind_some hF
  refine zca [] zi1 [] (Za8 Zw6) ?_
  refine zbr hF (fun Zij hF => ?_) (fun Zij hF => ?_)
  ·obtain ⟨r15, Zw5, hF⟩ := bind_some hF
   refine zca [] zi1 [] (Za8 Zw5) ?_
   obtain ⟨r16, Ztl, hF⟩ := bind_some hF
   refine zca [] zi1 [] (ZhO Ztl) ?_
   refine st ?_
   exact zja (Zfz _ _ _ _ _ _ hF)
  ·refine zbr hF (fun Zfr hF => ?_) (fun Zfr hF => ?_)
   ·obtain ⟨r18, ZJ9, hF⟩ := bind_some hF
    refine zca [] zi1 [] (Zd6 ZJ9) ?_
    refine st ?_
    exact zja (Zfz _ _ _ _ _ _ hF)
   ·refine zbr hF (fun ZqH hF => ?_) (fun ZqH hF => ?_)
    ·obtain ⟨r20, ZDw, hF⟩ := bind_some hF
     refine zca [] zi1 [] (Zd6 ZDw) ?_
     refine st ?_
     exact zja (Zfz _ _ _ _ _ _ hF)
    ·refine zbr hF (fun Zje hF => ?_) (fun Zje hF => ?_)
     ·refine ns ?_
      exact zja (Zfz _ _ _ _ _ _ hF)
     ·cases hF
 ·intro stg_parser_expr' Zd2 Zsi Zs6 Ztm ZsX Zl r hF
  unfold Zdk.M nP
  obtain ⟨r11, Zu6, hF⟩ := bind_some hF
  refine zca [] zi1 [] (Zd2 _ _ Zu6) ?_
  obtain ⟨r12, Zw2, hF⟩ := bind_some hF
  refine zgo ?_
  refine ea (ZH (f := c_S) (lc Zn) (Zp (f := c_S))) (zca [36] zi1 [] (ZaS Zw2) ?_)
  obtain rfl := Ze hF
  exact zre zi1
 ·intro stg_parser_bind' stg_parser_expr' stg_parser_expr_l3' Zpt Zd2 ZgF Zfp ZpO Zl r hF
  unfold ZdX.M nL
  refine AWL.step ?_
  obtain ⟨ZH4, ZIo, hF⟩ := bind_some hF
  refine zca [] zi1 [] (Zd1 ZIo) ?_
  refine zbr hF (fun ZHO hF => ?_) (fun ZHO hF => ?_)
  ·obtain ⟨Zy6, ZGr, hF⟩ := bind_some hF
   obtain ⟨ZIl, hF⟩ := Zx hF
   refine zgo ?_
   refine Or.inl (Or.inl (Exists.intro 5 (Exists.intro [[], [], [], [1000], []] (Exists.intro [([65, 66, 67, 68, 69], [1000], []), ([66, 67, 68, 69], [1000], []), ([65, 66, 67, 68, 69], [], []), ([65, 66, 68, 69], [], [1000]), ([65, 66, 69], [], [])] (Exists.intro [65, 66, 67, 68, 69] (an (by decide +kernel) ?_))))))
   refine dp ?_
   refine dp ?_
   refine dp ?_
   (refine st ?_; apply Exists.intro; apply Exists.intro; apply an; (focus ((conv => whnf); refine Exists.intro [(1000, 1000)] ?_; (conv => whnf); refine an rfl ?_; (conv => whnf); refine Zq.mono (Zq.weak (rn []) (Zpt _ _ ZGr) rfl (WS.mk (tp ZcZ) (ZcN rfl (cc (cc (cc ZcA))) Zc6))) ?_; rintro d b ⟨rfl, rfl⟩; exact an rfl (an rfl rfl))); apply an; (focus exact rfl); (conv => whnf))
   refine de (ZH (f := Za.cells) (ZpY (Za.cells_eq Zy6.1) (lc (lc (lc (lc (lc (lc (lc (lc (lc (lc (lc Zn)))))))))))) (Zp (f := Za.cells))) ?_
   refine zsa (fun l => Zaf l (fun x => Za.cells_len x)) ZIl ?_
   refine ea (WE.refl _) ?_
   rw [← List.map_append]
   exact znr (rn [(70, 4154)]) (ZgF _ _ _ _ hF)
  ·obtain ⟨ZHW, ZHX, hF⟩ := bind_some hF
   refine zgo ?_
   refine ea (ZH (f := c_S) (lc Zn) (Zp (f := c_S))) (zca [73] zi1 [] (ZaS ZHX) ?_)
   obtain ⟨ZBD, ZHz, hF⟩ := bind_some hF
   refine zca [] zi1 [] (Zd2 _ _ ZHz) ?_
   refine zgo ?_
   refine ea (ZH (f := Zj.cells) (ZpY (Zj.cells_eq ZBD.1) (lc (lc (lc (lc (lc (lc (lc Zn)))))))) (Zp (f := Zj.cells))) (st ?_)
   exact zja (ZdQ hF)
theorem ZpB {p r} (h : ZcP p = some r) : ZcP.M p r := ZoW.1 _ _ h

def Zbk (ZdM : (List Zk)) (Zh8 : (List Za)) (Zl : Zc) : Option (Zi × Zc) :=
 Zax Zl >>= fun ZFx =>
 if (ZFx.toList == (ByteArray.mk #[40]).toList) = true then
 ZcP Zl >>= fun Zfp =>
 ZaK ((Zh8.length + ([Zfp.1]).length) * 200 ≤ 140737488355328) >>= fun _ =>
 Zbk ZdM (Zh8 ++ ([Zfp.1])) Zfp.2
 else
 ZT Zl ([(ByteArray.mk #[41])]) >>= fun ZyM =>
 some (Zi.mk ZdM Zh8, ZyM)
 partial_fixpoint
def Zbk.M (ZdM : (List Zk)) (Zh8 : (List Za)) (Zl : Zc) (r : Zi × Zc) : Prop :=
 nL 49 Tryz.f60 [1, 1, 1, 1, 1, 0, 0] (.agg [.sl (r.1.fCons.map Zk.cells), .sl (r.1.fBinds.map Za.cells)]) [(1000, (Zc.bx r.2))] ⟨[(0, .ptr 1000 0), (2, .ptr 2 0), (3, .ptr 3 0)], [(2, [(none, .nils), (none, .nils)]), (3, [((some (4150, 69)), .sl (ZdM.map Zk.cells)), ((some (4151, 57)), .sl (Zh8.map Za.cells))]), (1000, (Zc.bx Zl))]⟩
theorem ZkW (ZdM : (List Zk)) : ∀ Zh8 Zl r, Zbk ZdM Zh8 Zl = some r → Zbk.M ZdM Zh8 Zl r := by
 refine Zbk.partial_correctness ZdM (Zbk.M ZdM) ?_
 intro stg_parser_program_l2' ZlE Zh8 Zl r hF
 unfold Zbk.M nL
 refine AWL.step ?_
 obtain ⟨ZFx, ZGC, hF⟩ := bind_some hF
 refine zca [] zi1 [] (Zd1 ZGC) ?_
 refine zbr hF (fun ZF4 hF => ?_) (fun ZF4 hF => ?_)
 ·obtain ⟨Zfp, ZvP, hF⟩ := bind_some hF
  obtain ⟨ZFD, hF⟩ := Zx hF
  refine zgo ?_
  refine Or.inl (Or.inl (Exists.intro 5 (Exists.intro [[], [], [], [1000], []] (Exists.intro [([38, 39, 40, 41, 42], [1000], []), ([39, 40, 41, 42], [1000], []), ([38, 39, 40, 41, 42], [], []), ([38, 39, 41, 42], [], [1000]), ([38, 39, 42], [], [])] (Exists.intro [38, 39, 40, 41, 42] (an (by decide +kernel) ?_))))))
  refine dp ?_
  refine dp ?_
  refine dp ?_
  (refine st ?_; apply Exists.intro; apply Exists.intro; apply an; (focus ((conv => whnf); refine Exists.intro [(1000, 1000)] ?_; (conv => whnf); refine an rfl ?_; (conv => whnf); refine Zq.mono (Zq.weak (rn []) (ZpB ZvP) rfl (WS.mk (tp ZcZ) (ZcN rfl (cc (cc (cc ZcA))) Zc6))) ?_; rintro d b ⟨rfl, rfl⟩; exact an rfl (an rfl rfl))); apply an; (focus exact rfl); (conv => whnf))
  refine de (ZH (f := Za.cells) (ZpY (Za.cells_eq Zfp.1) (lc (lc (lc (lc (lc (lc (lc (lc (lc (lc (lc Zn)))))))))))) (Zp (f := Za.cells))) ?_
  refine zsa (fun l => Zaf l (fun x => Za.cells_len x)) ZFD ?_
  refine ea (WE.refl _) ?_
  rw [← List.map_append]
  exact znr (rn [(43, 4151), (4150, 4150)]) (ZlE _ _ _ hF)
 ·obtain ⟨ZyM, Zze, hF⟩ := bind_some hF
  refine zgo ?_
  refine ea (ZH (f := c_S) (lc Zn) (Zp (f := c_S))) (zca [46] zi1 [] (ZaS Zze) ?_)
  obtain rfl := Ze hF
  exact zre zi1
theorem ZlD {ZdM Zh8 Zl r} (h : Zbk ZdM Zh8 Zl = some r) : Zbk.M ZdM Zh8 Zl r := (ZkW ZdM) _ _ _ h

def Zbj (ZdM : (List Zk)) (Zl : Zc) : Option (Zi × Zc) :=
 Zax Zl >>= fun r54 =>
 if (r54.toList == (ByteArray.mk #[40]).toList) = true then
 ZT Zl ([(ByteArray.mk #[40])]) >>= fun r56 =>
 Zs r56 >>= fun r57 =>
 ZaZ r57.2 >>= fun r58 =>
 ZaZ r58.2 >>= fun r59 =>
 ZT r59.2 ([(ByteArray.mk #[41])]) >>= fun r60 =>
 ZaK ((ZdM.length + ([(Zk.mk r57.1 r58.1 r59.1)]).length) * 32 ≤ 140737488355328) >>= fun _ =>
 Zbj (ZdM ++ ([(Zk.mk r57.1 r58.1 r59.1)])) r60
 else
 ZT Zl ([(ByteArray.mk #[41])]) >>= fun r62 =>
 Zbk ZdM ([]) r62
 partial_fixpoint
def Zbj.M (ZdM : (List Zk)) (Zl : Zc) (r : Zi × Zc) : Prop :=
 nL 49 Tryz.f60 [1, 1, 1, 0, 0] (.agg [.sl (r.1.fCons.map Zk.cells), .sl (r.1.fBinds.map Za.cells)]) [(1000, (Zc.bx r.2))] ⟨[(0, .ptr 1000 0), (2, .ptr 2 0), (3, .ptr 3 0)], [(2, [(none, .nils), (none, .nils)]), (3, [((some (4150, 69)), .sl (ZdM.map Zk.cells)), (none, .nils)]), (1000, (Zc.bx Zl))]⟩
theorem ZkV : ∀ ZdM Zl r, Zbj ZdM Zl = some r → Zbj.M ZdM Zl r := by
 refine Zbj.partial_correctness Zbj.M ?_
 intro stg_parser_program_l1' Zlo ZdM Zl r hF
 unfold Zbj.M nL
 refine AWL.step ?_
 obtain ⟨r54, ZDX, hF⟩ := bind_some hF
 refine zca [] zi1 [] (Zd1 ZDX) ?_
 refine zbr hF (fun ZJu hF => ?_) (fun ZJu hF => ?_)
 ·obtain ⟨r56, ZIX, hF⟩ := bind_some hF
  refine zgo ?_
  refine ea (ZH (f := c_S) (lc Zn) (Zp (f := c_S))) (zca [12] zi1 [] (ZaS ZIX) ?_)
  obtain ⟨r57, ZIy, hF⟩ := bind_some hF
  refine zca [] zi1 [] (Za8 ZIy) ?_
  obtain ⟨r58, ZJ3, hF⟩ := bind_some hF
  refine zca [] zi1 [] (Zd6 ZJ3) ?_
  obtain ⟨r59, ZDp, hF⟩ := bind_some hF
  refine zca [] zi1 [] (Zd6 ZDp) ?_
  obtain ⟨r60, ZBm, hF⟩ := bind_some hF
  refine zgo ?_
  refine ea (ZH (f := c_S) (lc Zn) (Zp (f := c_S))) (zca [24] zi1 [] (ZaS ZBm) ?_)
  obtain ⟨ZC1, hF⟩ := Zx hF
  refine zgo ?_
  refine ea (ZH (f := Zk.cells) (ZpY (Zk.cells_eq (Zk.mk r57.1 r58.1 r59.1)) (lc (lc (lc Zn)))) (Zp (f := Zk.cells))) (zsa (fun l => Zaf l (fun x => Zk.cells_len x)) ZC1 ?_)
  refine ea (WE.refl _) ?_
  rw [← List.map_append]
  exact znr (rn [(30, 4150)]) (Zlo _ _ _ hF)
 ·obtain ⟨r62, ZBa, hF⟩ := bind_some hF
  refine zgo ?_
  refine ea (ZH (f := c_S) (lc Zn) (Zp (f := c_S))) (zca [33] zi1 [] (ZaS ZBa) ?_)
  exact znl (ZlD hF)
theorem Zlt {ZdM Zl r} (h : Zbj ZdM Zl = some r) : Zbj.M ZdM Zl r := ZkV _ _ _ h

def Zdt (p : Zc) : Option (Zi × Zc) :=
 ZT p ([(ByteArray.mk #[40]), (ByteArray.mk #[112, 114, 111, 103, 114, 97, 109]), (ByteArray.mk #[40])]) >>= fun r1 =>
 Zbj ([]) r1
def Zdt.M (p : Zc) (r : Zi × Zc) : Prop :=
 Zq Tryz.prog 60 [.ptr 1000 0] [(1000, (Zc.bx p))] (fun d b => d = .agg [.sl (r.1.fCons.map Zk.cells), .sl (r.1.fBinds.map Za.cells)] ∧ b = [(1000, (Zc.bx r.2))])
theorem Znx {p r} (hF : Zdt p = some r) : Zdt.M p r := by
 unfold Zdt at hF
 unfold Zdt.M
 refine en Tryz.func60 ?_
 obtain ⟨r1, hr1, hF⟩ := bind_some hF
 refine zgo ?_
 refine ea (ZH (f := c_S) (lc Zn) (ZH (f := c_S) (lc Zn) (ZH (f := c_S) (lc Zn) (Zp (f := c_S))))) (zca [6] zi1 [] (ZaS hr1) ?_)
 exact znl (Zlt hF)

def ZjK (words : (List ByteArray)) : Option (Zi × Bool) :=
 Zdt (Zc.mk words 0 0) >>= fun r1 =>
 some (r1.1, r1.2.fat == ((words.length : Nat) : Int))
def ZjK.M (words : (List ByteArray)) (r : Zi × Bool) : Prop :=
 Zq Tryz.prog 27 [.c none (.sl (words.map c_S))] [] (fun d b => d = .tup [.agg [.sl (r.1.fCons.map Zk.cells), .sl (r.1.fBinds.map Za.cells)], .c (.v (.bool r.2))] ∧ b = [])
theorem Zwx {words r} (hF : ZjK words = some r) : ZjK.M words r := by
 unfold ZjK at hF
 unfold ZjK.M
 refine en Tryz.func27 ?_
 refine ns ?_
 refine sq (AWP.deferReg tabOk (by decide) rfl ⟨rfl, rfl⟩ rfl ?_)
 refine zgo ?_
 refine Exists.intro 59 (Exists.intro _ (an rfl (an ZwK ?_)))
 obtain ⟨r1, hr1, hF⟩ := bind_some hF
 refine zca [] [(8, 1000)] [] (Znx hr1) ?_
 refine zgo ?_
 refine Or.inl (Or.inl (Exists.intro 9 (Exists.intro [[], [], [], [], [], [], [], [], [2]] (Exists.intro [([11, 12, 13, 14, 15, 16, 17, 18], [], []), ([11, 12, 13, 14, 15, 16, 17, 18], [2], []), ([11, 13, 14, 15, 16, 17, 18], [2], []), ([11, 14, 15, 16, 17, 18], [2], []), ([11, 15, 16, 17, 18], [2], []), ([11, 12, 13, 14, 15, 16, 17, 18], [2], []), ([11, 12, 13, 14, 15, 17, 18], [2], []), ([11, 18], [2], []), ([12, 13, 14, 15, 16, 17, 18], [], [2])] (Exists.intro [11, 12, 13, 14, 15, 16, 17, 18] (an (by decide +kernel) ?_))))))
 refine dp ?_
 refine dp ?_
 refine dp ?_
 refine dp ?_
 refine dp ?_
 refine dp ?_
 refine dl ?_
 refine zdp ?_
 obtain rfl := Ze hF
 exact zre []

def Zhx (s : ByteArray) : Option (Zi × ZhD) :=
 strings_Split s (ByteArray.mk #[32]) >>= fun r1 =>
 ZjK r1 >>= fun r2 =>
 (if (!r2.2) = true then some true else ZeF r2.1 >>= fun r8 =>
 some (r8 != 0)) >>= fun c9 =>
 (if c9 = true then some true else ZfU r2.1 >>= fun r10 =>
 some (!(r10.toList == s.toList))) >>= fun c11 =>
 if c11 = true then
 some (Zi.mk ([] : List Zk) ([] : List Za), ZhD.mk 31 (ByteArray.mk #[]) 0 0)
 else
 some (r2.1, ZhD.mk 0 (ByteArray.mk #[]) 0 0)
def Zhx.M (s : ByteArray) (r : Zi × ZhD) : Prop :=
 Zq Tryz.prog 11 [.c none (.v (.string s))] [] (fun d b => d = .tup [.agg [.sl (r.1.fCons.map Zk.cells), .sl (r.1.fBinds.map Za.cells)], .agg (ZhD.fl r.2)] ∧ b = [])
theorem ZuH {s r} (hF : Zhx s = some r) : Zhx.M s r := by
 unfold Zhx at hF
 unfold Zhx.M
 refine en Tryz.func11 ?_
 obtain ⟨r1, hr1, hF⟩ := bind_some hF
 obtain ⟨r2, hr2, hF⟩ := bind_some hF
 refine zca [] [] [] (ZqA _ _ _ hr1) ?_
 refine zca [] [] [] (Zwx hr2) ?_
 obtain ⟨c9, hc9, hF⟩ := bind_some hF
 obtain ⟨c11, Zeo, hF⟩ := bind_some hF
 refine st ?_
 refine sq (sq ?_)
 refine zck [2, 3, 4] [2, 3, 4] [(24, .c none (.v (.bool c11)))] ?_ ?_
 ·refine zbf (fun Zfl => ?_) (fun Zfl => ?_)
  ·have hc9 := ift Zfl hc9
   obtain rfl := Ze hc9
   have Zeo := ift Zfl Zeo
   obtain rfl := Ze Zeo
   refine zgo ?_
   exact zwe
  ·have hc9 := ife Zfl hc9
   obtain ⟨r8, hr8, hc9⟩ := bind_some hc9
   refine zca [] [] [] (Zj5 hr8) ?_
   obtain rfl := Ze hc9
   refine zbf (fun Zir => ?_) (fun Zir => ?_)
   ·have Zeo := ift (an Zfl Zir) Zeo
    obtain rfl := Ze Zeo
    refine zgo ?_
    exact zwe
   ·have Zeo := ife (an Zfl Zir) Zeo
    obtain ⟨r10, ZuQ, Zeo⟩ := bind_some Zeo
    refine zca [] [] [] (Zqc ZuQ) ?_
    obtain rfl := Ze Zeo
    refine zgo ?_
    exact zwe
 refine zbr hF (fun Zij hF => ?_) (fun Zij hF => ?_)
 ·obtain rfl := Ze hF
  exact zre []
 ·obtain rfl := Ze hF
  exact zre []

def Zcl : Option (Bool) :=
 Zhx (ByteArray.mk #[40, 32, 112, 114, 111, 103, 114, 97, 109, 32, 40, 32, 40, 32, 84, 114, 117, 101, 32, 49, 32, 48, 32, 41, 32, 41, 32, 40, 32, 116, 104, 117, 110, 107, 32, 77, 46, 120, 32, 40, 32, 41, 32, 40, 32, 99, 111, 110, 32, 84, 114, 117, 101, 32, 41, 32, 41, 32, 41]) >>= fun r1 =>
 ZfE (Zj.mk 2 (ByteArray.mk #[102]) ([(ZJ.mk 1 (ByteArray.mk #[120]) 0), (ZJ.mk 1 (ByteArray.mk #[102]) 0)]) false ([] : List Za) ([] : List Zj) ([] : List Zf)) >>= fun r2 =>
 (if ((r1.2.fCode == 0) && ((r1.2.fName.toList == (ByteArray.mk #[]).toList) && ((r1.2.fLine == 0) && ((r1.2.fCol == 0) && true)))) = true then ZfU r1.1 >>= fun r3 =>
 some (r3.toList == (ByteArray.mk #[40, 32, 112, 114, 111, 103, 114, 97, 109, 32, 40, 32, 40, 32, 84, 114, 117, 101, 32, 49, 32, 48, 32, 41, 32, 41, 32, 40, 32, 116, 104, 117, 110, 107, 32, 77, 46, 120, 32, 40, 32, 41, 32, 40, 32, 99, 111, 110, 32, 84, 114, 117, 101, 32, 41, 32, 41, 32, 41]).toList) else some false) >>= fun c4 =>
 (if (c4 && (((r2.length : Nat) : Int) == 2)) = true then (ixI r2 0) >>= fun x6 =>
 some (x6.toList == (ByteArray.mk #[102]).toList) else some false) >>= fun c7 =>
 (if c7 = true then (ixI r2 1) >>= fun x8 =>
 some (x8.toList == (ByteArray.mk #[120]).toList) else some false) >>= fun c9 =>
 (if c9 = true then ZcY (Zj.mk 2 (ByteArray.mk #[102]) ([(ZJ.mk 1 (ByteArray.mk #[120]) 0), (ZJ.mk 1 (ByteArray.mk #[102]) 0)]) false ([] : List Za) ([] : List Zj) ([] : List Zf)) >>= fun r10 =>
 some (r10 == 3) else some false) >>= fun c11 =>
 some c11
def Zcl.M (r : Bool) : Prop :=
 Zq Tryz.prog 10 [] [] (fun d b => d = .c none (.v (.bool r)) ∧ b = [])
theorem Zfj {r} (hF : Zcl = some r) : Zcl.M r := by
 unfold Zcl at hF
 unfold Zcl.M
 refine en Tryz.func10 ?_
 obtain ⟨r1, hr1, hF⟩ := bind_some hF
 refine zca [] [] [] (ZuH hr1) ?_
 refine zgo ?_
 refine ea (ZH (f := ZJ.cells) (ZpY (ZJ.cells_eq (ZJ.mk 1 (ByteArray.mk #[120]) 0)) (lc (lc (lc Zn)))) (ZH (f := ZJ.cells) (ZpY (ZJ.cells_eq (ZJ.mk 1 (ByteArray.mk #[102]) 0)) (lc (lc (lc Zn)))) (Zp (f := ZJ.cells)))) ?_
 obtain ⟨r2, hr2, hF⟩ := bind_some hF
 refine zca [] [] [] (Zra hr2) ?_
 obtain ⟨c4, hc4, hF⟩ := bind_some hF
 obtain ⟨c7, hc7, hF⟩ := bind_some hF
 obtain ⟨c9, hc9, hF⟩ := bind_some hF
 obtain ⟨c11, Zeo, hF⟩ := bind_some hF
 refine st ?_
 refine sq ?_
 refine zck [] [] [(0, .c none (.v (.bool c11)))] ?_ ?_
 ·refine zbt (fun Zfl => ?_) (fun Zfl => ?_)
  ·have hc4 := ZrY Zfl hc4
   obtain ⟨r3, hr3, hc4⟩ := bind_some hc4
   refine zca [] [] [] (Zqc hr3) ?_
   obtain rfl := Ze hc4
   refine zbt (fun Zir => ?_) (fun Zir => ?_)
   ·refine zln fun hlen5 => ?_
    refine zbt (fun Zij => ?_) (fun Zij => ?_)
    ·have hc7 := ZrY (an Zfl (an Zir Zij)) hc7
     obtain ⟨x6, hx60, hx6, hc7⟩ := Zlj hc7
     refine zsr (Zjz (f := c_S) rfl hx6) ?_
     obtain rfl := Ze hc7
     refine zbt (fun Zp1 => ?_) (fun Zp1 => ?_)
     ·have hc9 := ZrY (an Zfl (an Zir (an Zij Zp1))) hc9
      obtain ⟨x8, hx80, hx8, hc9⟩ := Zlj hc9
      refine zsr (Zjz (f := c_S) rfl hx8) ?_
      obtain rfl := Ze hc9
      refine zbt (fun ZkT => ?_) (fun ZkT => ?_)
      ·have Zeo := ZrY (an Zfl (an Zir (an Zij (an Zp1 ZkT)))) Zeo
       obtain ⟨r10, ZuQ, Zeo⟩ := bind_some Zeo
       refine zgo ?_
       refine e3 (st ?_)
       refine cm (Zq.weak (rn []) (Zq6 ZuQ) rfl (WS.mk (ZcI (ZgG (Zce (wei (an Zfl (an Zir (an Zij (an Zp1 ZkT))))) (lc (lc (Zce (web (an Zfl (an Zir (an Zij (an Zp1 ZkT))))) (Zce WE.nil (Zce WE.nil (Zce WE.nil Zn)))))))) ZcZ) Zc6)) ?_
       obtain rfl := Ze Zeo
       refine zgo ?_
       exact zwe
      ·have Zeo := Zpw (an Zfl (an Zir (an Zij (an Zp1 ZkT)))) Zeo
       obtain rfl := Ze Zeo
       refine zgo ?_
       exact zwe
     ·have hc9 := Zpw (an Zfl (an Zir (an Zij Zp1))) hc9
      obtain rfl := Ze hc9
      have Zeo := Zpw (an Zfl (an Zir (an Zij Zp1))) Zeo
      obtain rfl := Ze Zeo
      refine zgo ?_
      exact zwe
    ·have hc7 := Zpw (an Zfl (an Zir Zij)) hc7
     obtain rfl := Ze hc7
     have hc9 := Zpw (an Zfl (an Zir Zij)) hc9
     obtain rfl := Ze hc9
     have Zeo := Zpw (an Zfl (an Zir Zij)) Zeo
     obtain rfl := Ze Zeo
     refine zgo ?_
     exact zwe
   ·have hc7 := Zpw (an Zfl Zir) hc7
    obtain rfl := Ze hc7
    have hc9 := Zpw (an Zfl Zir) hc9
    obtain rfl := Ze hc9
    have Zeo := Zpw (an Zfl Zir) Zeo
    obtain rfl := Ze Zeo
    refine zgo ?_
    exact zwe
  ·have hc4 := Zpw Zfl hc4
   obtain rfl := Ze hc4
   have hc7 := Zpw Zfl hc7
   obtain rfl := Ze hc7
   have hc9 := Zpw Zfl hc9
   obtain rfl := Ze hc9
   have Zeo := Zpw Zfl Zeo
   obtain rfl := Ze Zeo
   refine zgo ?_
   exact zwe
 obtain rfl := Ze hF
 exact zre []

def Zbh (i_5 : Nat) (p : Zi) (Zab : (List Za)) : Option (Bool) :=
 (match Zab with
 | x92 :: ZH2 =>
 ZaW p x92 ([] : List ByteArray) >>= fun r96 =>
 if (!r96) = true then
 some false
 else
 Zbh (i_5 + 1) p ZH2
 | [] =>
 some true)
 partial_fixpoint
def Zbh.M (p : Zi) (i_5 : Nat) (Zab : (List Za)) (r : Bool) : Prop :=
 ∀ ZcC : List Za, p.fBinds = ZcC ++ Zab → i_5 = ZcC.length → p.fCons.length ≤ maxLen → nL 64 Tryz.f58 [1, 1, 1, 1, 0, 1, 0] (.c none (.v (.bool r))) [] ⟨[(1, .ptr 1 0), (5, .c none (.v (.int .i64 ((i_5 : Nat) : Int))))], [(1, [(none, .sl (p.fCons.map Zk.cells)), (none, .sl (p.fBinds.map Za.cells))])]⟩
theorem Zls (p : Zi) : ∀ i_5 Zab r, Zbh i_5 p Zab = some r → Zbh.M p i_5 Zab r := by
 refine Zbh.partial_correctness p (Zbh.M p) ?_
 intro lazycref36_formed_l2' ZlU i_5 Zab r hF
 unfold Zbh.M nL
 intro ZcC ZeE ZeB hlen53
 refine AWL.step ?_
 refine zln fun hlen91 => ?_
 refine zbl ZeE ZeB (fun x92 ZH2 ZCO ZJs hl94 => ?_) (fun ZCO => ?_)
 ·subst ZCO
  obtain ⟨r96, ZIv, hF⟩ := bind_some hF
  refine zdo 6 [56, 57, 58, 59, 60, 61] [63, 63, 61, 63, 49, 33] ?_
  refine dp ?_
  refine dp ?_
  refine dp ?_
  refine dp ?_
  refine dr (Zr (Za.cells_eq x92) ZJs) ?_
  refine zdp ?_
  refine zca [] [] [] (Znt ZIv) ?_
  refine zbr hF (fun ZJd hF => ?_) (fun ZJd hF => ?_)
  ·obtain rfl := Ze hF
   exact zre []
  ·exact znl (ZlU _ _ _ hF _ (zlh ZeE) (zlk ZeB) hlen53)
 ·subst ZCO
  obtain rfl := Ze hF
  exact zre []
theorem ZlX {i_5 p Zab r} (h : Zbh i_5 p Zab = some r) : Zbh.M p i_5 Zab r := (Zls p) _ _ _ h

def ZaG (Zhs : (List ByteArray)) (i_4 : Nat) (p : Zi) (ZaV : (List Zk)) : Option (Bool) :=
 (match ZaV with
 | x54 :: ZFh =>
 ZaK ((Zhs.length + ([x54.fName]).length) * 16 ≤ 140737488355328) >>= fun _ =>
 if ((decide (x54.fTag < 0)) || (decide (x54.fArity < 0))) = true then
 some false
 else
 ZaG (Zhs ++ ([x54.fName])) (i_4 + 1) p ZFh
 | [] =>
 ZbI Zhs >>= fun r65 =>
 (if (!r65) = true then some true else Zbp p.fBinds >>= fun r66 =>
 ZbI r66 >>= fun r67 =>
 some (!r67)) >>= fun c68 =>
 if c68 = true then
 some false
 else
 Zbh 0 p p.fBinds)
 partial_fixpoint
def ZaG.M (p : Zi) (Zhs : (List ByteArray)) (i_4 : Nat) (ZaV : (List Zk)) (r : Bool) : Prop :=
 ∀ ZdC : List Zk, p.fCons = ZdC ++ ZaV → i_4 = ZdC.length → nL 64 Tryz.f58 [1, 1, 0, 1, 0] (.c none (.v (.bool r))) [] ⟨[(1, .ptr 1 0), (3, .c (some (3, 9)) (.sl (Zhs.map c_S))), (4, .c none (.v (.int .i64 ((i_4 : Nat) : Int))))], [(1, [(none, .sl (p.fCons.map Zk.cells)), (none, .sl (p.fBinds.map Za.cells))])]⟩
theorem Zlw (p : Zi) : ∀ Zhs i_4 ZaV r, ZaG Zhs i_4 p ZaV = some r → ZaG.M p Zhs i_4 ZaV r := by
 refine ZaG.partial_correctness p (ZaG.M p) ?_
 intro lazycref36_formed_l1' Zl3 Zhs i_4 ZaV r hF
 unfold ZaG.M nL
 intro ZdC ZfK ZfH
 refine AWL.step ?_
 refine zln fun hlen53 => ?_
 refine zbl ZfK ZfH (fun x54 ZFh ZCY ZEp hl56 => ?_) (fun ZCY => ?_)
 ·subst ZCY
  obtain ⟨ZJf, hF⟩ := Zx hF
  refine zsr (Zr (f := Zk.cells) (Zk.cells_eq x54) ZEp) ?_
  refine zgo ?_
  refine ea (ZH (f := c_S) (lc Zn) (Zp (f := c_S))) (zsa (fun l => Zaf l (fun x => Zbb x)) ZJf ?_)
  refine ea (WE.refl _) ?_
  rw [← List.map_append]
  refine st ?_
  refine sq ?_
  refine zck [1, 4] [1] [(3, .c (some (3, 9)) (.sl ((Zhs ++ ([x54.fName])).map c_S))), (38, .c none (.v (.bool ((decide (x54.fTag < 0)) || (decide (x54.fArity < 0))))))] ?_ ?_
  ·refine zsr (Zr (f := Zk.cells) (Zk.cells_eq x54) ZEp) ?_
   refine zbf (fun Zzm => ?_) (fun Zzm => ?_)
   ·refine zgo ?_
    exact ZIh (rn [(22, 3)])
   ·refine zsr (Zr (f := Zk.cells) (Zk.cells_eq x54) ZEp) ?_
    refine zgo ?_
    exact ZIh (rn [(22, 3)])
  refine zbr hF (fun Zy4 hF => ?_) (fun Zy4 hF => ?_)
  ·obtain rfl := Ze hF
   exact zre []
  ·exact znl (Zl3 _ _ _ _ hF _ (zlh ZfK) (zlk ZfH))
 ·subst ZCY
  obtain ⟨r65, ZD1, hF⟩ := bind_some hF
  obtain ⟨c68, ZtX, hF⟩ := bind_some hF
  refine nw ?_
  refine sq (sq ?_)
  refine zck [1] [1] [(48, .c none (.v (.bool c68)))] ?_ ?_
  ·refine zca [3] [] [] (ZdD ZD1) ?_
   refine zbf (fun ZzN => ?_) (fun ZzN => ?_)
   ·have ZtX := ift ZzN ZtX
    obtain rfl := Ze ZtX
    refine zgo ?_
    exact zwe
   ·have ZtX := ife ZzN ZtX
    obtain ⟨r66, ZDe, ZtX⟩ := bind_some ZtX
    obtain ⟨r67, ZI1, ZtX⟩ := bind_some ZtX
    refine zca [] [] [] (Zfk ZDe) ?_
    refine zca [45] [] [] (ZdD ZI1) ?_
    obtain rfl := Ze ZtX
    refine zgo ?_
    exact zwe
  refine zbr hF (fun Zri hF => ?_) (fun Zri hF => ?_)
  ·obtain rfl := Ze hF
   exact zre []
  ·exact znl (ZlX hF ([]) rfl rfl hlen53)
theorem Zl7 {Zhs i_4 p ZaV r} (h : ZaG Zhs i_4 p ZaV = some r) : ZaG.M p Zhs i_4 ZaV r := (Zlw p) _ _ _ _ h

def Zdl (p : Zi) : Option (Bool) :=
 ZaG ([] : List ByteArray) 0 p p.fCons
def Zdl.M (p : Zi) (r : Bool) : Prop :=
 Zq Tryz.prog 58 [.agg [.sl (p.fCons.map Zk.cells), .sl (p.fBinds.map Za.cells)]] [] (fun d b => d = .c none (.v (.bool r)) ∧ b = [])
theorem Zn0 {p r} (hF : Zdl p = some r) : Zdl.M p r := by
 unfold Zdl at hF
 unfold Zdl.M
 refine en Tryz.func58 ?_
 refine zgo ?_
 exact ea (Zp (f := c_S)) (znr (rn [(6, 3)]) (Zl7 hF ([]) rfl rfl))

def Zbd (n_3 : Int) (i_4 : Nat) (p : Zi) (ZaV : (List Za)) : Option (Int) :=
 (match ZaV with
 | x64 :: ZF5 =>
 Zw x64.fBody >>= fun r69 =>
 if (decide (r69 > 4000)) = true then
 some 4
 else
 ZaJ x64.fBody >>= fun r71 =>
 Zbd (IntKind.i64.wrap (n_3 + r71)) (i_4 + 1) p ZF5
 | [] =>
 if (((decide (n_3 > 60000)) || (decide (((p.fCons.length : Nat) : Int) > 60000))) || (decide (((p.fBinds.length : Nat) : Int) > 60000))) = true then
 some 3
 else
 Zdl p >>= fun r80 =>
 if (!r80) = true then
 some 1
 else
 some 0)
 partial_fixpoint
def Zbd.M (p : Zi) (n_3 : Int) (i_4 : Nat) (ZaV : (List Za)) (r : Int) : Prop :=
 ∀ ZdC : List Za, p.fBinds = ZdC ++ ZaV → i_4 = ZdC.length → nL 46 Tryz.f25 [1, 1, 0, 1, 0] (.c none (.v (.int .i64 r))) [] ⟨[(1, .ptr 1 0), (3, .c none (.v (.int .i64 n_3))), (4, .c none (.v (.int .i64 ((i_4 : Nat) : Int))))], [(1, [(none, .sl (p.fCons.map Zk.cells)), (none, .sl (p.fBinds.map Za.cells))])]⟩
theorem Zl4 (p : Zi) : ∀ n_3 i_4 ZaV r, Zbd n_3 i_4 p ZaV = some r → Zbd.M p n_3 i_4 ZaV r := by
 refine Zbd.partial_correctness p (Zbd.M p) ?_
 intro lazycref36_Check_l1' ZmI n_3 i_4 ZaV r hF
 unfold Zbd.M nL
 intro ZdC ZfK ZfH
 refine AWL.step ?_
 refine zln fun hlen63 => ?_
 refine zbl ZfK ZfH (fun x64 ZF5 ZEt ZGU hl66 => ?_) (fun ZEt => ?_)
 ·subst ZEt
  obtain ⟨r69, ZwI, hF⟩ := bind_some hF
  refine zsr (Zr (f := Za.cells) (Za.cells_eq x64) ZGU) ?_
  refine zca [] [] [] (Zi8 ZwI) ?_
  refine zbr hF (fun Zri hF => ?_) (fun Zri hF => ?_)
  ·obtain rfl := Ze hF
   exact zre []
  ·obtain ⟨r71, ZJT, hF⟩ := bind_some hF
   refine zsr (Zr (f := Za.cells) (Za.cells_eq x64) ZGU) ?_
   refine zca [] [] [] (Zkt ZJT) ?_
   exact znl (ZmI _ _ _ _ hF _ (zlh ZfK) (zlk ZfH))
 ·subst ZEt
  refine nw ?_
  refine sq (sq ?_)
  refine zck [1] [1] [(42, .c none (.v (.bool (((decide (n_3 > 60000)) || (decide (((p.fCons.length : Nat) : Int) > 60000))) || (decide (((p.fBinds.length : Nat) : Int) > 60000))))))] ?_ ?_
  ·exact zpt
  refine zbr hF (fun ZBi hF => ?_) (fun ZBi hF => ?_)
  ·obtain rfl := Ze hF
   exact zre []
  ·obtain ⟨r80, ZDW, hF⟩ := bind_some hF
   refine zca [] [] [] (Zn0 ZDW) ?_
   refine zbr hF (fun ZJX hF => ?_) (fun ZJX hF => ?_)
   ·obtain rfl := Ze hF
    exact zre []
   ·obtain rfl := Ze hF
    exact zre []
theorem ZmO {n_3 i_4 p ZaV r} (h : Zbd n_3 i_4 p ZaV = some r) : Zbd.M p n_3 i_4 ZaV r := (Zl4 p) _ _ _ _ h

def Zd5 (p : Zi) : Option (Int) :=
 Zbd 0 0 p p.fBinds
def Zd5.M (p : Zi) (r : Int) : Prop :=
 Zq Tryz.prog 25 [.agg [.sl (p.fCons.map Zk.cells), .sl (p.fBinds.map Za.cells)]] [] (fun d b => d = .c none (.v (.int .i64 r)) ∧ b = [])
theorem Zo1 {p r} (hF : Zd5 p = some r) : Zd5.M p r := by
 unfold Zd5 at hF
 unfold Zd5.M
 refine en Tryz.func25 ?_
 exact znl (ZmO hF ([]) rfl rfl)

def ZaO (i_3 : Nat) (p : Zi) (ZdR : (List Za)) : Option (Bool) :=
 (match ZdR with
 | x65 :: ZvS =>
 (if (decide (((x65.fFree.length : Nat) : Int) > 0)) = true then some true else Z9 x65.fBody >>= fun r69 =>
 some (!r69)) >>= fun c70 =>
 if c70 = true then
 some false
 else
 ZaO (i_3 + 1) p ZvS
 | [] =>
 Zcl >>= fun r73 =>
 some r73)
 partial_fixpoint
def ZaO.M (p : Zi) (i_3 : Nat) (ZdR : (List Za)) (r : Bool) : Prop :=
 ∀ ZiQ : List Za, p.fBinds = ZiQ ++ ZdR → i_3 = ZiQ.length → nL 39 Tryz.f6 [1, 1, 0, 1, 0] (.c none (.v (.bool r))) [] ⟨[(1, .ptr 1 0), (3, .c none (.v (.int .i64 ((i_3 : Nat) : Int))))], [(1, [(none, .sl (p.fCons.map Zk.cells)), (none, .sl (p.fBinds.map Za.cells))])]⟩
theorem Zkj (p : Zi) : ∀ i_3 ZdR r, ZaO i_3 p ZdR = some r → ZaO.M p i_3 ZdR r := by
 refine ZaO.partial_correctness p (ZaO.M p) ?_
 intro lazyclaw36_StgLists_l1' Zk1 i_3 ZdR r hF
 unfold ZaO.M nL
 intro ZiQ Zoc Zon
 refine AWL.step ?_
 refine zln fun hlen64 => ?_
 refine zbl Zoc Zon (fun x65 ZvS ZsN ZwE ZEG => ?_) (fun ZsN => ?_)
 ·subst ZsN
  obtain ⟨c70, Zri, hF⟩ := bind_some hF
  refine nw ?_
  refine sq (bk ?_)
  refine sq ?_
  refine zck [1, 3] [1] [(37, .c none (.v (.bool c70)))] ?_ ?_
  ·refine zsr (Zr (f := Za.cells) (Za.cells_eq x65) ZwE) ?_
   refine zln fun hlen68 => ?_
   refine zbf (fun ZAn => ?_) (fun ZAn => ?_)
   ·have Zri := ift ZAn Zri
    obtain rfl := Ze Zri
    refine zgo ?_
    exact zwe
   ·have Zri := ife ZAn Zri
    obtain ⟨r69, ZwI, Zri⟩ := bind_some Zri
    refine zsr (Zr (f := Za.cells) (Za.cells_eq x65) ZwE) ?_
    refine zca [] [] [] (ZoU ZwI) ?_
    obtain rfl := Ze Zri
    refine zgo ?_
    exact zwe
  refine zbr hF (fun ZI3 hF => ?_) (fun ZI3 hF => ?_)
  ·obtain rfl := Ze hF
   exact zre []
  ·exact znl (Zk1 _ _ _ hF _ (zlh Zoc) (zlk Zon))
 ·subst ZsN
  obtain ⟨r73, ZCX, hF⟩ := bind_some hF
  refine zca [] [] [] (Zfj ZCX) ?_
  obtain rfl := Ze hF
  exact zre []
theorem ZkX {i_3 p ZdR r} (h : ZaO i_3 p ZdR = some r) : ZaO.M p i_3 ZdR r := (Zkj p) _ _ _ h

def Zbe (n_3 : Int) (i_4 : Nat) (p : Zi) (ZaV : (List Za)) : Option (Bool) :=
 (match ZaV with
 | x65 :: ZvS =>
 Zw x65.fBody >>= fun r70 =>
 if (decide (r70 > 60)) = true then
 some false
 else
 ZaJ x65.fBody >>= fun r72 =>
 Zbe (IntKind.i64.wrap (n_3 + r72)) (i_4 + 1) p ZvS
 | [] =>
 some ((decide (n_3 ≤ 1500)) && (decide (((p.fCons.length : Nat) : Int) ≤ 300))))
 partial_fixpoint
def Zbe.M (p : Zi) (n_3 : Int) (i_4 : Nat) (ZaV : (List Za)) (r : Bool) : Prop :=
 ∀ ZdC : List Za, p.fBinds = ZdC ++ ZaV → i_4 = ZdC.length → p.fBinds.length ≤ maxLen → nL 40 Tryz.f9 [1, 1, 0, 1, 0] (.c none (.v (.bool r))) [] ⟨[(1, .ptr 1 0), (3, .c none (.v (.int .i64 n_3))), (4, .c none (.v (.int .i64 ((i_4 : Nat) : Int))))], [(1, [(none, .sl (p.fCons.map Zk.cells)), (none, .sl (p.fBinds.map Za.cells))])]⟩
theorem Zmj (p : Zi) : ∀ n_3 i_4 ZaV r, Zbe n_3 i_4 p ZaV = some r → Zbe.M p n_3 i_4 ZaV r := by
 refine Zbe.partial_correctness p (Zbe.M p) ?_
 intro lazyclaw36_small_l1' Zmt n_3 i_4 ZaV r hF
 unfold Zbe.M nL
 intro ZdC ZfK ZfH hlen1
 refine AWL.step ?_
 refine zln fun hlen64 => ?_
 refine zbl ZfK ZfH (fun x65 ZvS ZsN ZwE ZEG => ?_) (fun ZsN => ?_)
 ·subst ZsN
  obtain ⟨r70, ZBh, hF⟩ := bind_some hF
  refine zsr (Zr (f := Za.cells) (Za.cells_eq x65) ZwE) ?_
  refine zca [] [] [] (Zi8 ZBh) ?_
  refine zbr hF (fun ZAn hF => ?_) (fun ZAn hF => ?_)
  ·obtain rfl := Ze hF
   exact zre []
  ·obtain ⟨r72, ZEx, hF⟩ := bind_some hF
   refine zsr (Zr (f := Za.cells) (Za.cells_eq x65) ZwE) ?_
   refine zca [] [] [] (Zkt ZEx) ?_
   exact znl (Zmt _ _ _ _ hF _ (zlh ZfK) (zlk ZfH) hlen64)
 ·subst ZsN
  refine nw ?_
  refine sq ?_
  refine zck [] [] [(2, .c none (.v (.bool ((decide (n_3 ≤ 1500)) && (decide (((p.fCons.length : Nat) : Int) ≤ 300))))))] ?_ ?_
  ·exact zpt
  obtain rfl := Ze hF
  exact zre []
theorem Zmn {n_3 i_4 p ZaV r} (h : Zbe n_3 i_4 p ZaV = some r) : Zbe.M p n_3 i_4 ZaV r := (Zmj p) _ _ _ _ h

def Zde (p : Zi) : Option (Bool) :=
 Zbe ((p.fBinds.length : Nat) : Int) 0 p p.fBinds
def Zde.M (p : Zi) (r : Bool) : Prop :=
 Zq Tryz.prog 9 [.agg [.sl (p.fCons.map Zk.cells), .sl (p.fBinds.map Za.cells)]] [] (fun d b => d = .c none (.v (.bool r)) ∧ b = [])
theorem ZhQ {p r} (hF : Zde p = some r) : Zde.M p r := by
 unfold Zde at hF
 unfold Zde.M
 refine en Tryz.func9 ?_
 refine zln fun hlen1 => ?_
 exact znl (Zmn hF ([]) rfl rfl hlen1)

def Zdg (p : Zi) : Option (Bool) :=
 Zde p >>= fun r6 =>
 (if (!r6) = true then some true else ZeF p >>= fun r7 =>
 some (r7 != 0)) >>= fun c8 =>
 if c8 = true then
 Zcl >>= fun r11 =>
 some r11
 else
 ZaO 0 p p.fBinds
def Zdg.M (p : Zi) (r : Bool) : Prop :=
 Zq Tryz.prog 6 [.agg [.sl (p.fCons.map Zk.cells), .sl (p.fBinds.map Za.cells)]] [] (fun d b => d = .c none (.v (.bool r)) ∧ b = [])
theorem Znc {p r} (hF : Zdg p = some r) : Zdg.M p r := by
 unfold Zdg at hF
 unfold Zdg.M
 refine en Tryz.func6 ?_
 obtain ⟨r6, hr6, hF⟩ := bind_some hF
 obtain ⟨c8, hc8, hF⟩ := bind_some hF
 refine ns ?_
 refine sq (sq ?_)
 refine zck [1] [1] [(11, .c none (.v (.bool c8)))] ?_ ?_
 ·refine zca [] [] [] (ZhQ hr6) ?_
  refine zbf (fun hc9 => ?_) (fun hc9 => ?_)
  ·have hc8 := ift hc9 hc8
   obtain rfl := Ze hc8
   refine zgo ?_
   exact zwe
  ·have hc8 := ife hc9 hc8
   obtain ⟨r7, hr7, hc8⟩ := bind_some hc8
   refine zca [] [] [] (Zj5 hr7) ?_
   obtain rfl := Ze hc8
   refine zgo ?_
   exact zwe
 refine zbr hF (fun ZhI hF => ?_) (fun ZhI hF => ?_)
 ·obtain ⟨r11, Zu6, hF⟩ := bind_some hF
  refine zca [] [] [] (Zfj Zu6) ?_
  obtain rfl := Ze hF
  exact zre []
 ·exact znl (ZkX hF ([]) rfl rfl)

def ZaH (s1_ : (List ZJ)) (s2_ : (List ZJ)) (ZcO : Nat) (ZbY : (List ZJ)) : Option (Bool) :=
 (match ZbY with
 | x23 :: Zwv =>
 (s2_[ZcO]?) >>= fun x27 =>
 if (!((x23.fOp == x27.fOp) && ((x23.fName.toList == x27.fName.toList) && ((x23.fN == x27.fN) && true)))) = true then
 some false
 else
 ZaH s1_ s2_ (ZcO + 1) Zwv
 | [] =>
 some true)
 partial_fixpoint
def ZaH.M (s1_ : (List ZJ)) (s2_ : (List ZJ)) (ZcO : Nat) (ZbY : (List ZJ)) (r : Bool) : Prop :=
 ∀ Zff : List ZJ, s1_ = Zff ++ ZbY → ZcO = Zff.length → s1_.length ≤ maxLen → s2_.length ≤ maxLen → nL 26 Tryz.f119 [1, 1, 0, 1, 0] (.c none (.v (.bool r))) [] ⟨[(0, .c none (.sl (s1_.map ZJ.cells))), (1, .c none (.sl (s2_.map ZJ.cells))), (12, .c none (.v (.int .i64 ((s1_.length : Nat) : Int)))), (13, .c none (.v (.int .i64 ((ZcO : Nat) : Int))))], []⟩
theorem Zlu (s1_ : (List ZJ)) (s2_ : (List ZJ)) : ∀ ZcO ZbY r, ZaH s1_ s2_ ZcO ZbY = some r → ZaH.M s1_ s2_ ZcO ZbY r := by
 refine ZaH.partial_correctness s1_ s2_ (ZaH.M s1_ s2_) ?_
 intro slices_Equal_Atom_l1' ZlZ ZcO ZbY r hF
 unfold ZaH.M nL
 intro Zff ZiF ZiS hlen7 hlen5
 refine AWL.step ?_
 refine zbl ZiF ZiS (fun x23 Zwv Zte ZAj ZFg => ?_) (fun Zte => ?_)
 ·subst Zte
  obtain ⟨x27, ZuP, hF⟩ := bind_some hF
  refine zdo 8 [16, 17, 18, 19, 20, 21, 22, 23] [255, 255, 252, 248, 255, 255, 207, 143] ?_
  refine dp ?_
  refine dp ?_
  refine dr (Zr (ZJ.cells_eq x23) ZAj) ?_
  refine dp ?_
  refine dp ?_
  refine dp ?_
  refine dr (Zr (ZJ.cells_eq x27) ZuP) ?_
  refine zdp ?_
  refine zbr hF (fun Zto hF => ?_) (fun Zto hF => ?_)
  ·obtain rfl := Ze hF
   exact zre []
  ·exact znl (ZlZ _ _ _ hF _ (zlh ZiF) (zlk ZiS) hlen7 hlen5)
 ·subst Zte
  obtain rfl := Ze hF
  exact zre []
theorem ZlN {s1_ s2_ ZcO ZbY r} (h : ZaH s1_ s2_ ZcO ZbY = some r) : ZaH.M s1_ s2_ ZcO ZbY r := (Zlu s1_ s2_) _ _ _ h

def Zef (s1_ : (List ZJ)) (s2_ : (List ZJ)) : Option (Bool) :=
 if (((s1_.length : Nat) : Int) != ((s2_.length : Nat) : Int)) = true then
 some false
 else
 ZaH s1_ s2_ 0 s1_
def Zef.M (s1_ : (List ZJ)) (s2_ : (List ZJ)) (r : Bool) : Prop :=
 Zq Tryz.prog 119 [.c none (.sl (s1_.map ZJ.cells)), .c none (.sl (s2_.map ZJ.cells))] [] (fun d b => d = .c none (.v (.bool r)) ∧ b = [])
theorem Zov {s1_ s2_ r} (hF : Zef s1_ s2_ = some r) : Zef.M s1_ s2_ r := by
 unfold Zef at hF
 unfold Zef.M
 refine en Tryz.func119 ?_
 refine zln fun hlen4 => ?_
 refine zln fun hlen5 => ?_
 refine zbr hF (fun hc6 hF => ?_) (fun hc6 hF => ?_)
 ·obtain rfl := Ze hF
  exact zre []
 ·refine zln fun hlen7 => ?_
  exact znl (ZlN hF ([]) rfl rfl hlen7 hlen5)

mutual
def ZO (s1_ : (List Za)) (s2_ : (List Za)) : Option (Bool) :=
 if (((s1_.length : Nat) : Int) != ((s2_.length : Nat) : Int)) = true then
 some false
 else
 ZA s2_ s1_ 0 s1_
 partial_fixpoint
def ZA (s2_ : (List Za)) (s1_ : (List Za)) (Zgp : Nat) (Zc5 : (List Za)) : Option (Bool) :=
 (match Zc5 with
 | x21 :: ZvE =>
 (s2_[Zgp]?) >>= fun x24 =>
 ZeT x21 x24 >>= fun r25 =>
 if (!r25) = true then
 some false
 else
 ZA s2_ s1_ (Zgp + 1) ZvE
 | [] =>
 some true)
 partial_fixpoint
def ZeT (a : Za) (b : Za) : Option (Bool) :=
 (if ((a.fName.toList == b.fName.toList) && (a.fOp == b.fOp)) = true then ZaB a.fFree b.fFree >>= fun r1 =>
 some r1 else some false) >>= fun c2 =>
 (if c2 = true then ZaB a.fParams b.fParams >>= fun r3 =>
 some r3 else some false) >>= fun c4 =>
 (if c4 = true then Zec a.fBody b.fBody >>= fun r5 =>
 some r5 else some false) >>= fun c6 =>
 some c6
 partial_fixpoint
def Zec (a : Zj) (b : Zj) : Option (Bool) :=
 (if (((a.fOp == b.fOp) && (a.fName.toList == b.fName.toList)) && (a.fRec == b.fRec)) = true then Zef a.fArgs b.fArgs >>= fun r1 =>
 some r1 else some false) >>= fun c2 =>
 (if c2 = true then ZO a.fBinds b.fBinds >>= fun r3 =>
 some r3 else some false) >>= fun c4 =>
 (if c4 = true then ZaQ a.fKids b.fKids >>= fun r5 =>
 some r5 else some false) >>= fun c6 =>
 (if c6 = true then Zaz a.fAlts b.fAlts >>= fun r7 =>
 some r7 else some false) >>= fun c8 =>
 some c8
 partial_fixpoint
def Zaz (s1_ : (List Zf)) (s2_ : (List Zf)) : Option (Bool) :=
 if (((s1_.length : Nat) : Int) != ((s2_.length : Nat) : Int)) = true then
 some false
 else
 ZI s2_ s1_ 0 s1_
 partial_fixpoint
def ZI (s2_ : (List Zf)) (s1_ : (List Zf)) (Zgp : Nat) (Zc5 : (List Zf)) : Option (Bool) :=
 (match Zc5 with
 | x21 :: ZvE =>
 (s2_[Zgp]?) >>= fun x24 =>
 ZfC x21 x24 >>= fun r25 =>
 if (!r25) = true then
 some false
 else
 ZI s2_ s1_ (Zgp + 1) ZvE
 | [] =>
 some true)
 partial_fixpoint
def ZfC (a : Zf) (b : Zf) : Option (Bool) :=
 (if (((a.fOp == b.fOp) && (a.fName.toList == b.fName.toList)) && (a.fN == b.fN)) = true then ZaB a.fVars b.fVars >>= fun r1 =>
 some r1 else some false) >>= fun c2 =>
 (if c2 = true then Zec a.fBody b.fBody >>= fun r3 =>
 some r3 else some false) >>= fun c4 =>
 some c4
 partial_fixpoint
def ZaQ (s1_ : (List Zj)) (s2_ : (List Zj)) : Option (Bool) :=
 if (((s1_.length : Nat) : Int) != ((s2_.length : Nat) : Int)) = true then
 some false
 else
 ZP s2_ s1_ 0 s1_
 partial_fixpoint
def ZP (s2_ : (List Zj)) (s1_ : (List Zj)) (Zgp : Nat) (Zc5 : (List Zj)) : Option (Bool) :=
 (match Zc5 with
 | x21 :: ZvE =>
 (s2_[Zgp]?) >>= fun x24 =>
 Zec x21 x24 >>= fun r25 =>
 if (!r25) = true then
 some false
 else
 ZP s2_ s1_ (Zgp + 1) ZvE
 | [] =>
 some true)
 partial_fixpoint
end
def ZO.M (s1_ : (List Za)) (s2_ : (List Za)) (r : Bool) : Prop :=
 Zq Tryz.prog 56 [.c none (.sl (s1_.map Za.cells)), .c none (.sl (s2_.map Za.cells)), .c none (.v (.func (.func 57) #[] #[]))] [] (fun d b => d = .c none (.v (.bool r)) ∧ b = [])
def ZA.M (s2_ : (List Za)) (s1_ : (List Za)) (Zgp : Nat) (Zc5 : (List Za)) (r : Bool) : Prop :=
 ∀ Zfb : List Za, s1_ = Zfb ++ Zc5 → Zgp = Zfb.length → s1_.length ≤ maxLen → s2_.length ≤ maxLen → nL 32 Tryz.f56 [1, 1, 0, 1, 0] (.c none (.v (.bool r))) [] ⟨[(1, .c none (.sl (s2_.map Za.cells))), (2, .c none (.v (.func (.func 57) #[] #[]))), (15, .c none (.sl (s1_.map Za.cells))), (16, .c none (.v (.int .i64 ((s1_.length : Nat) : Int)))), (17, .c none (.v (.int .i64 ((Zgp : Nat) : Int))))], []⟩
def ZeT.M (a : Za) (b : Za) (r : Bool) : Prop :=
 Zq Tryz.prog 57 [.agg (Za.fl a), .agg (Za.fl b)] [] (fun d b => d = .c none (.v (.bool r)) ∧ b = [])
def Zec.M (a : Zj) (b : Zj) (r : Bool) : Prop :=
 Zq Tryz.prog 88 [.agg (Zj.fl a), .agg (Zj.fl b)] [] (fun d b => d = .c none (.v (.bool r)) ∧ b = [])
def Zaz.M (s1_ : (List Zf)) (s2_ : (List Zf)) (r : Bool) : Prop :=
 Zq Tryz.prog 121 [.c none (.sl (s1_.map Zf.cells)), .c none (.sl (s2_.map Zf.cells)), .c none (.v (.func (.func 122) #[] #[]))] [] (fun d b => d = .c none (.v (.bool r)) ∧ b = [])
def ZI.M (s2_ : (List Zf)) (s1_ : (List Zf)) (Zgp : Nat) (Zc5 : (List Zf)) (r : Bool) : Prop :=
 ∀ Zfb : List Zf, s1_ = Zfb ++ Zc5 → Zgp = Zfb.length → s1_.length ≤ maxLen → s2_.length ≤ maxLen → nL 32 Tryz.f121 [1, 1, 0, 1, 0] (.c none (.v (.bool r))) [] ⟨[(1, .c none (.sl (s2_.map Zf.cells))), (2, .c none (.v (.func (.func 122) #[] #[]))), (15, .c none (.sl (s1_.map Zf.cells))), (16, .c none (.v (.int .i64 ((s1_.length : Nat) : Int)))), (17, .c none (.v (.int .i64 ((Zgp : Nat) : Int))))], []⟩
def ZfC.M (a : Zf) (b : Zf) (r : Bool) : Prop :=
 Zq Tryz.prog 122 [.agg (Zf.fl a), .agg (Zf.fl b)] [] (fun d b => d = .c none (.v (.bool r)) ∧ b = [])
def ZaQ.M (s1_ : (List Zj)) (s2_ : (List Zj)) (r : Bool) : Prop :=
 Zq Tryz.prog 120 [.c none (.sl (s1_.map Zj.cells)), .c none (.sl (s2_.map Zj.cells)), .c none (.v (.func (.func 88) #[] #[]))] [] (fun d b => d = .c none (.v (.bool r)) ∧ b = [])
def ZP.M (s2_ : (List Zj)) (s1_ : (List Zj)) (Zgp : Nat) (Zc5 : (List Zj)) (r : Bool) : Prop :=
 ∀ Zfb : List Zj, s1_ = Zfb ++ Zc5 → Zgp = Zfb.length → s1_.length ≤ maxLen → s2_.length ≤ maxLen → nL 32 Tryz.f120 [1, 1, 0, 1, 0] (.c none (.v (.bool r))) [] ⟨[(1, .c none (.sl (s2_.map Zj.cells))), (2, .c none (.v (.func (.func 88) #[] #[]))), (15, .c none (.sl (s1_.map Zj.cells))), (16, .c none (.v (.int .i64 ((s1_.length : Nat) : Int)))), (17, .c none (.v (.int .i64 ((Zgp : Nat) : Int))))], []⟩
theorem Zgq : (∀ s1_ s2_ r, ZO s1_ s2_ = some r → ZO.M s1_ s2_ r) ∧ (∀ s2_ s1_ Zgp Zc5 r, ZA s2_ s1_ Zgp Zc5 = some r → ZA.M s2_ s1_ Zgp Zc5 r) ∧ (∀ a b r, ZeT a b = some r → ZeT.M a b r) ∧ (∀ a b r, Zec a b = some r → Zec.M a b r) ∧ (∀ s1_ s2_ r, Zaz s1_ s2_ = some r → Zaz.M s1_ s2_ r) ∧ (∀ s2_ s1_ Zgp Zc5 r, ZI s2_ s1_ Zgp Zc5 = some r → ZI.M s2_ s1_ Zgp Zc5 r) ∧ (∀ a b r, ZfC a b = some r → ZfC.M a b r) ∧ (∀ s1_ s2_ r, ZaQ s1_ s2_ = some r → ZaQ.M s1_ s2_ r) ∧ (∀ s2_ s1_ Zgp Zc5 r, ZP s2_ s1_ Zgp Zc5 = some r → ZP.M s2_ s1_ Zgp Zc5 r) := by
 refine ZO.mutual_partial_correctness ZO.M ZA.M ZeT.M Zec.M Zaz.M ZI.M ZfC.M ZaQ.M ZP.M ?_ ?_ ?_ ?_ ?_ ?_ ?_ ?_ ?_
 ·intro slices_EqualFunc_StgBind_stg_sameBind_l1' ZcX s1_ s2_ r hF
  unfold ZO.M
  refine en Tryz.func56 ?_
  refine zln fun hlen4 => ?_
  refine zln fun hlen5 => ?_
  refine zbr hF (fun hc6 hF => ?_) (fun hc6 hF => ?_)
  ·obtain rfl := Ze hF
   exact zre []
  ·refine zln fun hlen7 => ?_
   exact znl (ZcX _ _ _ _ _ hF ([]) rfl rfl hlen7 hlen5)
 ·intro slices_EqualFunc_StgBind_stg_sameBind_l1' stg_sameBind' ZcX Zry s2_ s1_ Zgp Zc5 r hF
  unfold ZA.M nL
  intro Zfb ZiT ZiI hlen7 hlen5
  refine AWL.step ?_
  refine zbl ZiT ZiI (fun x21 ZvE Zr5 ZBl ZFV => ?_) (fun Zr5 => ?_)
  ·subst Zr5
   refine zsr (Zr (f := Za.cells) (Za.cells_eq x21) ZBl) ?_
   obtain ⟨x24, Zy7, hF⟩ := bind_some hF
   refine zsr (Zr (f := Za.cells) (Za.cells_eq x24) Zy7) ?_
   obtain ⟨r25, ZuK, hF⟩ := bind_some hF
   refine zca [] [] [] (Zry _ _ _ ZuK) ?_
   refine zbr hF (fun ZmW hF => ?_) (fun ZmW hF => ?_)
   ·obtain rfl := Ze hF
    exact zre []
   ·exact znl (ZcX _ _ _ _ _ hF _ (zlh ZiT) (zlk ZiI) hlen7 hlen5)
  ·subst Zr5
   obtain rfl := Ze hF
   exact zre []
 ·intro stg_sameExpr' Zgj a b r hF
  unfold ZeT.M
  refine en Tryz.func57 ?_
  obtain ⟨c2, hc2, hF⟩ := bind_some hF
  obtain ⟨c4, hc4, hF⟩ := bind_some hF
  obtain ⟨c6, hc6, hF⟩ := bind_some hF
  refine ns ?_
  refine sq ?_
  refine zck [] [] [(4, .c none (.v (.bool c6)))] ?_ ?_
  ·refine zbt (fun hc7 => ?_) (fun hc7 => ?_)
   ·refine zbt (fun hc8 => ?_) (fun hc8 => ?_)
    ·have hc2 := ift (an hc7 hc8) hc2
     obtain ⟨r1, hr1, hc2⟩ := bind_some hc2
     refine zca [] [] [] (Ze4 hr1) ?_
     obtain rfl := Ze hc2
     refine zbt (fun hc9 => ?_) (fun hc9 => ?_)
     ·have hc4 := ift (an hc7 (an hc8 hc9)) hc4
      obtain ⟨r3, hr3, hc4⟩ := bind_some hc4
      refine zca [] [] [] (Ze4 hr3) ?_
      obtain rfl := Ze hc4
      refine zbt (fun ZhI => ?_) (fun ZhI => ?_)
      ·have hc6 := ift (an hc7 (an hc8 (an hc9 ZhI))) hc6
       obtain ⟨r5, hr5, hc6⟩ := bind_some hc6
       refine zca [] [] [] (Zgj _ _ _ hr5) ?_
       obtain rfl := Ze hc6
       refine zgo ?_
       exact zwe
      ·have hc6 := ife (an hc7 (an hc8 (an hc9 ZhI))) hc6
       obtain rfl := Ze hc6
       refine zgo ?_
       exact zwe
     ·have hc4 := ife (an hc7 (an hc8 hc9)) hc4
      obtain rfl := Ze hc4
      have hc6 := ife (an hc7 (an hc8 hc9)) hc6
      obtain rfl := Ze hc6
      refine zgo ?_
      exact zwe
    ·have hc2 := ife (an hc7 hc8) hc2
     obtain rfl := Ze hc2
     have hc4 := ife (an hc7 hc8) hc4
     obtain rfl := Ze hc4
     have hc6 := ife (an hc7 hc8) hc6
     obtain rfl := Ze hc6
     refine zgo ?_
     exact zwe
   ·have hc2 := ife hc7 hc2
    obtain rfl := Ze hc2
    have hc4 := ife hc7 hc4
    obtain rfl := Ze hc4
    have hc6 := ife hc7 hc6
    obtain rfl := Ze hc6
    refine zgo ?_
    exact zwe
  obtain rfl := Ze hF
  exact zre []
 ·intro slices_EqualFunc_StgBind_stg_sameBind' slices_EqualFunc_StgAlt_stg_sameAlt' slices_EqualFunc_Stg_stg_sameExpr' ZgC Zhc ZhN a b r hF
  unfold Zec.M
  refine en Tryz.func88 ?_
  obtain ⟨c2, hc2, hF⟩ := bind_some hF
  obtain ⟨c4, hc4, hF⟩ := bind_some hF
  obtain ⟨c6, hc6, hF⟩ := bind_some hF
  obtain ⟨c8, hc8, hF⟩ := bind_some hF
  refine ns ?_
  refine sq ?_
  refine zck [] [] [(4, .c none (.v (.bool c8)))] ?_ ?_
  ·refine zbt (fun hc9 => ?_) (fun hc9 => ?_)
   ·refine zbt (fun ZhI => ?_) (fun ZhI => ?_)
    ·refine zbt (fun Zeo => ?_) (fun Zeo => ?_)
     ·have hc2 := ift (an hc9 (an ZhI Zeo)) hc2
      obtain ⟨r1, hr1, hc2⟩ := bind_some hc2
      refine zca [] [] [] (Zov hr1) ?_
      obtain rfl := Ze hc2
      refine zbt (fun Zfl => ?_) (fun Zfl => ?_)
      ·have hc4 := ift (an hc9 (an ZhI (an Zeo Zfl))) hc4
       obtain ⟨r3, hr3, hc4⟩ := bind_some hc4
       refine zca [] [] [] (ZgC _ _ _ hr3) ?_
       obtain rfl := Ze hc4
       refine zbt (fun Zir => ?_) (fun Zir => ?_)
       ·have hc6 := ift (an hc9 (an ZhI (an Zeo (an Zfl Zir)))) hc6
        obtain ⟨r5, hr5, hc6⟩ := bind_some hc6
        refine zca [] [] [] (ZhN _ _ _ hr5) ?_
        obtain rfl := Ze hc6
        refine zbt (fun Zij => ?_) (fun Zij => ?_)
        ·have hc8 := ift (an hc9 (an ZhI (an Zeo (an Zfl (an Zir Zij))))) hc8
         obtain ⟨r7, hr7, hc8⟩ := bind_some hc8
         refine zca [] [] [] (Zhc _ _ _ hr7) ?_
         obtain rfl := Ze hc8
         refine zgo ?_
         exact zwe
        ·have hc8 := ife (an hc9 (an ZhI (an Zeo (an Zfl (an Zir Zij))))) hc8
         obtain rfl := Ze hc8
         refine zgo ?_
         exact zwe
       ·have hc6 := ife (an hc9 (an ZhI (an Zeo (an Zfl Zir)))) hc6
        obtain rfl := Ze hc6
        have hc8 := ife (an hc9 (an ZhI (an Zeo (an Zfl Zir)))) hc8
        obtain rfl := Ze hc8
        refine zgo ?_
        exact zwe
      ·have hc4 := ife (an hc9 (an ZhI (an Zeo Zfl))) hc4
       obtain rfl := Ze hc4
       have hc6 := ife (an hc9 (an ZhI (an Zeo Zfl))) hc6
       obtain rfl := Ze hc6
       have hc8 := ife (an hc9 (an ZhI (an Zeo Zfl))) hc8
       obtain rfl := Ze hc8
       refine zgo ?_
       exact zwe
     ·have hc2 := ife (an hc9 (an ZhI Zeo)) hc2
      obtain rfl := Ze hc2
      have hc4 := ife (an hc9 (an ZhI Zeo)) hc4
      obtain rfl := Ze hc4
      have hc6 := ife (an hc9 (an ZhI Zeo)) hc6
      obtain rfl := Ze hc6
      have hc8 := ife (an hc9 (an ZhI Zeo)) hc8
      obtain rfl := Ze hc8
      refine zgo ?_
      exact zwe
    ·have hc2 := ife (an hc9 ZhI) hc2
     obtain rfl := Ze hc2
     have hc4 := ife (an hc9 ZhI) hc4
     obtain rfl := Ze hc4
     have hc6 := ife (an hc9 ZhI) hc6
     obtain rfl := Ze hc6
     have hc8 := ife (an hc9 ZhI) hc8
     obtain rfl := Ze hc8
     refine zgo ?_
     exact zwe
   ·have hc2 := ife hc9 hc2
    obtain rfl := Ze hc2
    have hc4 := ife hc9 hc4
    obtain rfl := Ze hc4
    have hc6 := ife hc9 hc6
    obtain rfl := Ze hc6
    have hc8 := ife hc9 hc8
    obtain rfl := Ze hc8
    refine zgo ?_
    exact zwe
  obtain rfl := Ze hF
  exact zre []
 ·intro slices_EqualFunc_StgAlt_stg_sameAlt_l1' Zdd s1_ s2_ r hF
  unfold Zaz.M
  refine en Tryz.func121 ?_
  refine zln fun hlen4 => ?_
  refine zln fun hlen5 => ?_
  refine zbr hF (fun hc6 hF => ?_) (fun hc6 hF => ?_)
  ·obtain rfl := Ze hF
   exact zre []
  ·refine zln fun hlen7 => ?_
   exact znl (Zdd _ _ _ _ _ hF ([]) rfl rfl hlen7 hlen5)
 ·intro slices_EqualFunc_StgAlt_stg_sameAlt_l1' stg_sameAlt' Zdd Ztu s2_ s1_ Zgp Zc5 r hF
  unfold ZI.M nL
  intro Zfb ZiT ZiI hlen7 hlen5
  refine AWL.step ?_
  refine zbl ZiT ZiI (fun x21 ZvE Zr5 ZBl ZFV => ?_) (fun Zr5 => ?_)
  ·subst Zr5
   refine zsr (Zr (f := Zf.cells) (Zf.cells_eq x21) ZBl) ?_
   obtain ⟨x24, Zy7, hF⟩ := bind_some hF
   refine zsr (Zr (f := Zf.cells) (Zf.cells_eq x24) Zy7) ?_
   obtain ⟨r25, ZuK, hF⟩ := bind_some hF
   refine zca [] [] [] (Ztu _ _ _ ZuK) ?_
   refine zbr hF (fun ZmW hF => ?_) (fun ZmW hF => ?_)
   ·obtain rfl := Ze hF
    exact zre []
   ·exact znl (Zdd _ _ _ _ _ hF _ (zlh ZiT) (zlk ZiI) hlen7 hlen5)
  ·subst Zr5
   obtain rfl := Ze hF
   exact zre []
 ·intro stg_sameExpr' Zgj a b r hF
  unfold ZfC.M
  refine en Tryz.func122 ?_
  obtain ⟨c2, hc2, hF⟩ := bind_some hF
  obtain ⟨c4, hc4, hF⟩ := bind_some hF
  refine ns ?_
  refine sq ?_
  refine zck [] [] [(4, .c none (.v (.bool c4)))] ?_ ?_
  ·refine zbt (fun hc5 => ?_) (fun hc5 => ?_)
   ·refine zbt (fun hc6 => ?_) (fun hc6 => ?_)
    ·refine zbt (fun hc7 => ?_) (fun hc7 => ?_)
     ·have hc2 := ift (an hc5 (an hc6 hc7)) hc2
      obtain ⟨r1, hr1, hc2⟩ := bind_some hc2
      refine zca [] [] [] (Ze4 hr1) ?_
      obtain rfl := Ze hc2
      refine zbt (fun hc8 => ?_) (fun hc8 => ?_)
      ·have hc4 := ift (an hc5 (an hc6 (an hc7 hc8))) hc4
       obtain ⟨r3, hr3, hc4⟩ := bind_some hc4
       refine zca [] [] [] (Zgj _ _ _ hr3) ?_
       obtain rfl := Ze hc4
       refine zgo ?_
       exact zwe
      ·have hc4 := ife (an hc5 (an hc6 (an hc7 hc8))) hc4
       obtain rfl := Ze hc4
       refine zgo ?_
       exact zwe
     ·have hc2 := ife (an hc5 (an hc6 hc7)) hc2
      obtain rfl := Ze hc2
      have hc4 := ife (an hc5 (an hc6 hc7)) hc4
      obtain rfl := Ze hc4
      refine zgo ?_
      exact zwe
    ·have hc2 := ife (an hc5 hc6) hc2
     obtain rfl := Ze hc2
     have hc4 := ife (an hc5 hc6) hc4
     obtain rfl := Ze hc4
     refine zgo ?_
     exact zwe
   ·have hc2 := ife hc5 hc2
    obtain rfl := Ze hc2
    have hc4 := ife hc5 hc4
    obtain rfl := Ze hc4
    refine zgo ?_
    exact zwe
  obtain rfl := Ze hF
  exact zre []
 ·intro slices_EqualFunc_Stg_stg_sameExpr_l1' Zdr s1_ s2_ r hF
  unfold ZaQ.M
  refine en Tryz.func120 ?_
  refine zln fun hlen4 => ?_
  refine zln fun hlen5 => ?_
  refine zbr hF (fun hc6 hF => ?_) (fun hc6 hF => ?_)
  ·obtain rfl := Ze hF
   exact zre []
  ·refine zln fun hlen7 => ?_
   exact znl (Zdr _ _ _ _ _ hF ([]) rfl rfl hlen7 hlen5)
 ·intro stg_sameExpr' slices_EqualFunc_Stg_stg_sameExpr_l1' Zgj Zdr s2_ s1_ Zgp Zc5 r hF
  unfold ZP.M nL
  intro Zfb ZiT ZiI hlen7 hlen5
  refine AWL.step ?_
  refine zbl ZiT ZiI (fun x21 ZvE Zr5 ZBl ZFV => ?_) (fun Zr5 => ?_)
  ·subst Zr5
   refine zsr (Zr (f := Zj.cells) (Zj.cells_eq x21) ZBl) ?_
   obtain ⟨x24, Zy7, hF⟩ := bind_some hF
   refine zsr (Zr (f := Zj.cells) (Zj.cells_eq x24) Zy7) ?_
   obtain ⟨r25, ZuK, hF⟩ := bind_some hF
   refine zca [] [] [] (Zgj _ _ _ ZuK) ?_
   refine zbr hF (fun ZmW hF => ?_) (fun ZmW hF => ?_)
   ·obtain rfl := Ze hF
    exact zre []
   ·exact znl (Zdr _ _ _ _ _ hF _ (zlh ZiT) (zlk ZiI) hlen7 hlen5)
  ·subst Zr5
   obtain rfl := Ze hF
   exact zre []
theorem ZgB {s1_ s2_ r} (h : ZO s1_ s2_ = some r) : ZO.M s1_ s2_ r := Zgq.1 _ _ _ h

def Zag (s1_ : (List Zk)) (s2_ : (List Zk)) (ZcO : Nat) (ZbY : (List Zk)) : Option (Bool) :=
 (match ZbY with
 | x23 :: Zwv =>
 (s2_[ZcO]?) >>= fun x27 =>
 if (!((x23.fName.toList == x27.fName.toList) && ((x23.fTag == x27.fTag) && ((x23.fArity == x27.fArity) && true)))) = true then
 some false
 else
 Zag s1_ s2_ (ZcO + 1) Zwv
 | [] =>
 some true)
 partial_fixpoint
def Zag.M (s1_ : (List Zk)) (s2_ : (List Zk)) (ZcO : Nat) (ZbY : (List Zk)) (r : Bool) : Prop :=
 ∀ Zff : List Zk, s1_ = Zff ++ ZbY → ZcO = Zff.length → s1_.length ≤ maxLen → s2_.length ≤ maxLen → nL 26 Tryz.f55 [1, 1, 0, 1, 0] (.c none (.v (.bool r))) [] ⟨[(0, .c none (.sl (s1_.map Zk.cells))), (1, .c none (.sl (s2_.map Zk.cells))), (12, .c none (.v (.int .i64 ((s1_.length : Nat) : Int)))), (13, .c none (.v (.int .i64 ((ZcO : Nat) : Int))))], []⟩
theorem Zj4 (s1_ : (List Zk)) (s2_ : (List Zk)) : ∀ ZcO ZbY r, Zag s1_ s2_ ZcO ZbY = some r → Zag.M s1_ s2_ ZcO ZbY r := by
 refine Zag.partial_correctness s1_ s2_ (Zag.M s1_ s2_) ?_
 intro slices_Equal_ConInfo_l1' Zkw ZcO ZbY r hF
 unfold Zag.M nL
 intro Zff ZiF ZiS hlen7 hlen5
 refine AWL.step ?_
 refine zbl ZiF ZiS (fun x23 Zwv Zte ZAj ZFg => ?_) (fun Zte => ?_)
 ·subst Zte
  obtain ⟨x27, ZuP, hF⟩ := bind_some hF
  refine zdo 8 [16, 17, 18, 19, 20, 21, 22, 23] [255, 255, 252, 248, 255, 255, 207, 143] ?_
  refine dp ?_
  refine dp ?_
  refine dr (Zr (Zk.cells_eq x23) ZAj) ?_
  refine dp ?_
  refine dp ?_
  refine dp ?_
  refine dr (Zr (Zk.cells_eq x27) ZuP) ?_
  refine zdp ?_
  refine zbr hF (fun Zto hF => ?_) (fun Zto hF => ?_)
  ·obtain rfl := Ze hF
   exact zre []
  ·exact znl (Zkw _ _ _ hF _ (zlh ZiF) (zlk ZiS) hlen7 hlen5)
 ·subst Zte
  obtain rfl := Ze hF
  exact zre []
theorem Zko {s1_ s2_ ZcO ZbY r} (h : Zag s1_ s2_ ZcO ZbY = some r) : Zag.M s1_ s2_ ZcO ZbY r := (Zj4 s1_ s2_) _ _ _ h

def Zdy (s1_ : (List Zk)) (s2_ : (List Zk)) : Option (Bool) :=
 if (((s1_.length : Nat) : Int) != ((s2_.length : Nat) : Int)) = true then
 some false
 else
 Zag s1_ s2_ 0 s1_
def Zdy.M (s1_ : (List Zk)) (s2_ : (List Zk)) (r : Bool) : Prop :=
 Zq Tryz.prog 55 [.c none (.sl (s1_.map Zk.cells)), .c none (.sl (s2_.map Zk.cells))] [] (fun d b => d = .c none (.v (.bool r)) ∧ b = [])
theorem ZlR {s1_ s2_ r} (hF : Zdy s1_ s2_ = some r) : Zdy.M s1_ s2_ r := by
 unfold Zdy at hF
 unfold Zdy.M
 refine en Tryz.func55 ?_
 refine zln fun hlen4 => ?_
 refine zln fun hlen5 => ?_
 refine zbr hF (fun hc6 hF => ?_) (fun hc6 hF => ?_)
 ·obtain rfl := Ze hF
  exact zre []
 ·refine zln fun hlen7 => ?_
  exact znl (Zko hF ([]) rfl rfl hlen7 hlen5)

def ZiC (a : Zi) (b : Zi) : Option (Bool) :=
 Zdy a.fCons b.fCons >>= fun r1 =>
 (if r1 = true then ZO a.fBinds b.fBinds >>= fun r2 =>
 some r2 else some false) >>= fun c3 =>
 some c3
def ZiC.M (a : Zi) (b : Zi) (r : Bool) : Prop :=
 Zq Tryz.prog 24 [.agg [.sl (a.fCons.map Zk.cells), .sl (a.fBinds.map Za.cells)], .agg [.sl (b.fCons.map Zk.cells), .sl (b.fBinds.map Za.cells)]] [] (fun d b => d = .c none (.v (.bool r)) ∧ b = [])
theorem ZqS {a b r} (hF : ZiC a b = some r) : ZiC.M a b r := by
 unfold ZiC at hF
 unfold ZiC.M
 refine en Tryz.func24 ?_
 obtain ⟨r1, hr1, hF⟩ := bind_some hF
 obtain ⟨c3, hc3, hF⟩ := bind_some hF
 refine ns ?_
 refine sq ?_
 refine zck [] [] [(4, .c none (.v (.bool c3)))] ?_ ?_
 ·refine zca [] [] [] (ZlR hr1) ?_
  refine zbt (fun hc4 => ?_) (fun hc4 => ?_)
  ·have hc3 := ift hc4 hc3
   obtain ⟨r2, hr2, hc3⟩ := bind_some hc3
   refine zca [] [] [] (ZgB hr2) ?_
   obtain rfl := Ze hc3
   refine zgo ?_
   exact zwe
  ·have hc3 := ife hc4 hc3
   obtain rfl := Ze hc3
   refine zgo ?_
   exact zwe
 obtain rfl := Ze hF
 exact zre []

def Zar (i_5 : Nat) (a : Zi) (b : Zi) (Zab : (List Zk)) : Option (Bool) :=
 (match Zab with
 | x33 :: ZFc =>
 (b.fCons[i_5]?) >>= fun x37 =>
 if (!((x33.fName.toList == x37.fName.toList) && ((x33.fTag == x37.fTag) && ((x33.fArity == x37.fArity) && true)))) = true then
 some false
 else
 Zar (i_5 + 1) a b ZFc
 | [] =>
 some true)
 partial_fixpoint
def Zar.M (a : Zi) (b : Zi) (i_5 : Nat) (Zab : (List Zk)) (r : Bool) : Prop :=
 ∀ ZcC : List Zk, a.fCons = ZcC ++ Zab → i_5 = ZcC.length → nL 39 Tryz.f15 [1, 1, 0, 1, 0] (.c none (.v (.bool r))) [] ⟨[(2, .ptr 2 0), (3, .ptr 3 0), (5, .c none (.v (.int .i64 ((i_5 : Nat) : Int))))], [(2, [(none, .sl (a.fCons.map Zk.cells)), (none, .sl (a.fBinds.map Za.cells))]), (3, [(none, .sl (b.fCons.map Zk.cells)), (none, .sl (b.fBinds.map Za.cells))])]⟩
theorem ZmR (a : Zi) (b : Zi) : ∀ i_5 Zab r, Zar i_5 a b Zab = some r → Zar.M a b i_5 Zab r := by
 refine Zar.partial_correctness a b (Zar.M a b) ?_
 intro lazycref36_Same_l1' Znw i_5 Zab r hF
 unfold Zar.M nL
 intro ZcC ZeE ZeB
 refine AWL.step ?_
 refine zln fun hlen32 => ?_
 refine zbl ZeE ZeB (fun x33 ZFc ZC9 ZJw hl35 => ?_) (fun ZC9 => ?_)
 ·subst ZC9
  obtain ⟨x37, ZEE, hF⟩ := bind_some hF
  refine zdo 10 [28, 29, 30, 31, 32, 33, 34, 35, 36, 37] [1023, 1022, 1023, 1016, 1008, 1023, 991, 1023, 799, 543] ?_
  refine dp ?_
  refine dp ?_
  refine dp ?_
  refine dr (Zr (Zk.cells_eq x33) ZJw) ?_
  refine dp ?_
  refine dp ?_
  refine dp ?_
  refine dp ?_
  refine dr (Zr (Zk.cells_eq x37) ZEE) ?_
  refine zdp ?_
  refine zbr hF (fun ZJ7 hF => ?_) (fun ZJ7 hF => ?_)
  ·obtain rfl := Ze hF
   exact zre []
  ·exact znl (Znw _ _ _ hF _ (zlh ZeE) (zlk ZeB))
 ·subst ZC9
  obtain rfl := Ze hF
  exact zre []
theorem ZnA {i_5 a b Zab r} (h : Zar i_5 a b Zab = some r) : Zar.M a b i_5 Zab r := (ZmR a b) _ _ _ h

def Zah (a : (List ByteArray)) (b : (List ByteArray)) (i_5 : Nat) (Zab : (List ByteArray)) : Option (Bool) :=
 (match Zab with
 | x28 :: ZFX =>
 (b[i_5]?) >>= fun x32 =>
 if (!(x28.toList == x32.toList)) = true then
 some false
 else
 Zah a b (i_5 + 1) ZFX
 | [] =>
 some true)
 partial_fixpoint
def Zah.M (a : (List ByteArray)) (b : (List ByteArray)) (i_5 : Nat) (Zab : (List ByteArray)) (r : Bool) : Prop :=
 ∀ ZcC : List ByteArray, a = ZcC ++ Zab → i_5 = ZcC.length → a.length ≤ maxLen → b.length ≤ maxLen → nL 26 Tryz.f73 [1, 1, 0, 1, 0] (.c none (.v (.bool r))) [] ⟨[(0, .c none (.sl (a.map c_S))), (1, .c none (.sl (b.map c_S))), (5, .c none (.v (.int .i64 ((i_5 : Nat) : Int))))], []⟩
theorem ZjZ (a : (List ByteArray)) (b : (List ByteArray)) : ∀ i_5 Zab r, Zah a b i_5 Zab = some r → Zah.M a b i_5 Zab r := by
 refine Zah.partial_correctness a b (Zah.M a b) ?_
 intro lazycref36_sameNames_l1' ZkH i_5 Zab r hF
 unfold Zah.M nL
 intro ZcC ZeE ZeB hlen4 hlen5
 refine AWL.step ?_
 refine zln fun hlen27 => ?_
 refine zbl ZeE ZeB (fun x28 ZFX ZDo ZFl hl30 => ?_) (fun ZDo => ?_)
 ·subst ZDo
  obtain ⟨x32, ZIY, hF⟩ := bind_some hF
  refine zdo 8 [17, 18, 19, 20, 21, 22, 23, 24] [255, 255, 252, 248, 255, 255, 207, 143] ?_
  refine dp ?_
  refine dp ?_
  refine dr (Zr rfl ZFl) ?_
  refine dp ?_
  refine dp ?_
  refine dp ?_
  refine dr (Zr rfl ZIY) ?_
  refine zdp ?_
  refine zbr hF (fun ZJo hF => ?_) (fun ZJo hF => ?_)
  ·obtain rfl := Ze hF
   exact zre []
  ·exact znl (ZkH _ _ _ hF _ (zlh ZeE) (zlk ZeB) hlen27 hlen5)
 ·subst ZDo
  obtain rfl := Ze hF
  exact zre []
theorem Zkq {a b i_5 Zab r} (h : Zah a b i_5 Zab = some r) : Zah.M a b i_5 Zab r := (ZjZ a b) _ _ _ h

def Zcy (a : (List ByteArray)) (b : (List ByteArray)) : Option (Bool) :=
 if (((a.length : Nat) : Int) != ((b.length : Nat) : Int)) = true then
 some false
 else
 Zah a b 0 a
def Zcy.M (a : (List ByteArray)) (b : (List ByteArray)) (r : Bool) : Prop :=
 Zq Tryz.prog 73 [.c none (.sl (a.map c_S)), .c none (.sl (b.map c_S))] [] (fun d b => d = .c none (.v (.bool r)) ∧ b = [])
theorem ZfV {a b r} (hF : Zcy a b = some r) : Zcy.M a b r := by
 unfold Zcy at hF
 unfold Zcy.M
 refine en Tryz.func73 ?_
 refine zln fun hlen4 => ?_
 refine zln fun hlen5 => ?_
 refine zbr hF (fun hc6 hF => ?_) (fun hc6 hF => ?_)
 ·obtain rfl := Ze hF
  exact zre []
 ·exact znl (Zkq hF ([]) rfl rfl hlen4 hlen5)

mutual
def Zbt (a : (List Za)) (b : (List Za)) : Option (Bool) :=
 if (((a.length : Nat) : Int) != ((b.length : Nat) : Int)) = true then
 some false
 else
 ZaR a b 0 a
 partial_fixpoint
def ZaR (a : (List Za)) (b : (List Za)) (i_5 : Nat) (Zab : (List Za)) : Option (Bool) :=
 (match Zab with
 | x88 :: ZGL =>
 (b[i_5]?) >>= fun ZEA =>
 (if (!(x88.fName.toList == ZEA.fName.toList)) = true then some true else (b[i_5]?) >>= fun ZEm =>
 some (x88.fOp != ZEm.fOp)) >>= fun c105 =>
 (if c105 = true then some true else (b[i_5]?) >>= fun ZD9 =>
 Zcy x88.fFree ZD9.fFree >>= fun ZGQ =>
 some (!ZGQ)) >>= fun c108 =>
 (if c108 = true then some true else (b[i_5]?) >>= fun ZD5 =>
 Zcy x88.fParams ZD5.fParams >>= fun ZwV =>
 some (!ZwV)) >>= fun c111 =>
 (if c111 = true then some true else (b[i_5]?) >>= fun ZDP =>
 ZbJ x88.fBody ZDP.fBody >>= fun ZHy =>
 some (!ZHy)) >>= fun c114 =>
 if c114 = true then
 some false
 else
 ZaR a b (i_5 + 1) ZGL
 | [] =>
 some true)
 partial_fixpoint
def ZbJ (a : Zj) (b : Zj) : Option (Bool) :=
 (if ((((((a.fOp != b.fOp) || (!(a.fName.toList == b.fName.toList))) || (!(a.fRec == b.fRec))) || (((a.fArgs.length : Nat) : Int) != ((b.fArgs.length : Nat) : Int))) || (((a.fKids.length : Nat) : Int) != ((b.fKids.length : Nat) : Int))) || (((a.fAlts.length : Nat) : Int) != ((b.fAlts.length : Nat) : Int))) = true then some true else Zbt a.fBinds b.fBinds >>= fun r16 =>
 some (!r16)) >>= fun c17 =>
 if c17 = true then
 some false
 else
 Zal 0 a b a.fArgs
 partial_fixpoint
def Zal (i_5 : Nat) (a : Zj) (b : Zj) (Zab : (List ZJ)) : Option (Bool) :=
 (match Zab with
 | x73 :: ZE2 =>
 (b.fArgs[i_5]?) >>= fun x77 =>
 if (!((x73.fOp == x77.fOp) && ((x73.fName.toList == x77.fName.toList) && ((x73.fN == x77.fN) && true)))) = true then
 some false
 else
 Zal (i_5 + 1) a b ZE2
 | [] =>
 Zav 0 a b a.fKids)
 partial_fixpoint
def Zav (i_6 : Nat) (a : Zj) (b : Zj) (ZcK : (List Zj)) : Option (Bool) :=
 (match ZcK with
 | Zwz :: ZCy =>
 (b.fKids[i_6]?) >>= fun ZD3 =>
 ZbJ Zwz ZD3 >>= fun Zwk =>
 if (!Zwk) = true then
 some false
 else
 Zav (i_6 + 1) a b ZCy
 | [] =>
 Zat 0 a b a.fAlts)
 partial_fixpoint
def Zat (i_7 : Nat) (a : Zj) (b : Zj) (Zfd : (List Zf)) : Option (Bool) :=
 (match Zfd with
 | ZwC :: ZCr =>
 (b.fAlts[i_7]?) >>= fun ZwP =>
 (if (((ZwC.fOp != ZwP.fOp) || (!(ZwC.fName.toList == ZwP.fName.toList))) || (ZwC.fN != ZwP.fN)) = true then some true else Zcy ZwC.fVars ZwP.fVars >>= fun ZFH =>
 some (!ZFH)) >>= fun c180 =>
 (if c180 = true then some true else ZbJ ZwC.fBody ZwP.fBody >>= fun ZF9 =>
 some (!ZF9)) >>= fun c182 =>
 if c182 = true then
 some false
 else
 Zat (i_7 + 1) a b ZCr
 | [] =>
 some true)
 partial_fixpoint
end
def Zbt.M (a : (List Za)) (b : (List Za)) (r : Bool) : Prop :=
 Zq Tryz.prog 42 [.c none (.sl (a.map Za.cells)), .c none (.sl (b.map Za.cells))] [] (fun d b => d = .c none (.v (.bool r)) ∧ b = [])
def ZaR.M (a : (List Za)) (b : (List Za)) (i_5 : Nat) (Zab : (List Za)) (r : Bool) : Prop :=
 ∀ ZcC : List Za, a = ZcC ++ Zab → i_5 = ZcC.length → a.length ≤ maxLen → b.length ≤ maxLen → nL 83 Tryz.f42 [1, 1, 0, 1, 0] (.c none (.v (.bool r))) [] ⟨[(0, .c none (.sl (a.map Za.cells))), (1, .c none (.sl (b.map Za.cells))), (5, .c none (.v (.int .i64 ((i_5 : Nat) : Int))))], []⟩
def ZbJ.M (a : Zj) (b : Zj) (r : Bool) : Prop :=
 Zq Tryz.prog 74 [.agg (Zj.fl a), .agg (Zj.fl b)] [] (fun d b => d = .c none (.v (.bool r)) ∧ b = [])
def Zal.M (i_5 : Nat) (a : Zj) (b : Zj) (Zab : (List ZJ)) (r : Bool) : Prop :=
 ∀ ZcC : List ZJ, a.fArgs = ZcC ++ Zab → i_5 = ZcC.length → nL 153 Tryz.f74 [1, 1, 0, 1, 0] (.c none (.v (.bool r))) [] ⟨[(2, .ptr 2 0), (3, .ptr 3 0), (5, .c none (.v (.int .i64 ((i_5 : Nat) : Int))))], [(2, (Zj.bx a)), (3, (Zj.bx b))]⟩
def Zav.M (i_6 : Nat) (a : Zj) (b : Zj) (ZcK : (List Zj)) (r : Bool) : Prop :=
 ∀ ZeX : List Zj, a.fKids = ZeX ++ ZcK → i_6 = ZeX.length → a.fArgs.length ≤ maxLen → nL 153 Tryz.f74 [1, 1, 1, 0, 1, 0] (.c none (.v (.bool r))) [] ⟨[(2, .ptr 2 0), (3, .ptr 3 0), (6, .c none (.v (.int .i64 ((i_6 : Nat) : Int))))], [(2, (Zj.bx a)), (3, (Zj.bx b))]⟩
def Zat.M (i_7 : Nat) (a : Zj) (b : Zj) (Zfd : (List Zf)) (r : Bool) : Prop :=
 ∀ ZiA : List Zf, a.fAlts = ZiA ++ Zfd → i_7 = ZiA.length → a.fArgs.length ≤ maxLen → a.fKids.length ≤ maxLen → nL 153 Tryz.f74 [1, 1, 1, 1, 0, 1, 0] (.c none (.v (.bool r))) [] ⟨[(2, .ptr 2 0), (3, .ptr 3 0), (7, .c none (.v (.int .i64 ((i_7 : Nat) : Int))))], [(2, (Zj.bx a)), (3, (Zj.bx b))]⟩
theorem ZlA : (∀ a b r, Zbt a b = some r → Zbt.M a b r) ∧ (∀ a b i_5 Zab r, ZaR a b i_5 Zab = some r → ZaR.M a b i_5 Zab r) ∧ (∀ a b r, ZbJ a b = some r → ZbJ.M a b r) ∧ (∀ i_5 a b Zab r, Zal i_5 a b Zab = some r → Zal.M i_5 a b Zab r) ∧ (∀ i_6 a b ZcK r, Zav i_6 a b ZcK = some r → Zav.M i_6 a b ZcK r) ∧ (∀ i_7 a b Zfd r, Zat i_7 a b Zfd = some r → Zat.M i_7 a b Zfd r) := by
 refine Zbt.mutual_partial_correctness Zbt.M ZaR.M ZbJ.M Zal.M Zav.M Zat.M ?_ ?_ ?_ ?_ ?_ ?_
 ·intro lazycref36_sameBinds_l1' Zfa a b r hF
  unfold Zbt.M
  refine en Tryz.func42 ?_
  refine zln fun hlen4 => ?_
  refine zln fun hlen5 => ?_
  refine zbr hF (fun hc6 hF => ?_) (fun hc6 hF => ?_)
  ·obtain rfl := Ze hF
   exact zre []
  ·exact znl (Zfa _ _ _ _ _ hF ([]) rfl rfl hlen4 hlen5)
 ·intro lazycref36_sameBinds_l1' lazycref36_SameExpr' Zfa Zek a b i_5 Zab r hF
  unfold ZaR.M nL
  intro ZcC ZeE ZeB hlen4 hlen5
  refine AWL.step ?_
  refine zln fun hlen87 => ?_
  refine zbl ZeE ZeB (fun x88 ZGL ZDM ZA2 hl90 => ?_) (fun ZDM => ?_)
  ·subst ZDM
   obtain ⟨ZEA, ZFW, hF⟩ := bind_some hF
   obtain ⟨c105, Zi7, hF⟩ := bind_some hF
   obtain ⟨c108, ZlS, hF⟩ := bind_some hF
   obtain ⟨c111, ZjV, hF⟩ := bind_some hF
   obtain ⟨c114, ZiD, hF⟩ := bind_some hF
   refine nw ?_
   refine sq (bk ?_)
   refine sq ?_
   refine zck [0, 1, 5] [] [(82, .c none (.v (.bool c114)))] ?_ ?_
   ·refine zdo 63 [17, 18, 19, 20, 21, 22, 23, 24, 25, 26, 27, 28, 29, 30, 31, 32, 33, 34, 35, 36, 37, 38, 39, 40, 41, 42, 43, 44, 45, 46, 47, 48, 49, 50, 51, 52, 53, 54, 55, 56, 57, 58, 59, 60, 61, 62, 63, 64, 65, 66, 67, 68, 69, 70, 71, 72, 73, 74, 75, 76, 77, 78, 79] [9223372036854775807, 9223372036854775807, 9223372036854775804, 9223372036854775800, 9223372036854775792, 9223372036854775807, 9223372036854775807, 9223372036854775711, 9223372036854775583, 9223372036854775327, 9223372036854774784, 9223372036854773760, 9223372036854771712, 9223372036854771712, 9223372036854759424, 9223372036854743040, 9223372036854710272, 9223372036854771712, 9223372036854771712, 9223372036854378496, 9223372036853854208, 9223372036852805632, 9223372036850581504, 9223372036846387200, 9223372036837998592, 9223372036821221376, 9223372036821221376, 9223372036720558080, 9223372036586340352, 9223372036317904896, 9223372036821221376, 9223372036821221376, 9223372033599995904, 9223372029305028608, 9223372020715094016, 9223372002495037440, 9223371968135299072, 9223371899415822336, 9223371761976868864, 9223371487098961920, 9223371487098961920, 9223369837831520256, 9223367638808264704, 9223363240761753600, 9223371487098961920, 9223371487098961920, 9223318710540828672, 9223248341796651008, 9223107604308295680, 9222809086901354496, 9222246136947933184, 9221120237041090560, 9218868437227405312, 9214364837600034816, 9214364837600034816, 9187343239835811840, 9151314442816847872, 9079256848778919936, 9214364837600034816, 9214364837600034816, 8349673709144899584, 7196752204538052608, 4890909195324358656] ?_
    refine dp ?_
    refine dp ?_
    refine dr (Zr (Za.cells_eq x88) ZA2) ?_
    refine dp ?_
    refine dp ?_
    refine dp ?_
    refine dp ?_
    refine dr (Zr (Za.cells_eq ZEA) ZFW) ?_
    refine zdp ?_
    refine zbf (fun Zkd => ?_) (fun Zkd => ?_)
    ·have Zi7 := ift Zkd Zi7
     obtain rfl := Ze Zi7
     refine zgo ?_
     refine dp ?_
     refine dp ?_
     have ZlS := ift Zkd ZlS
     obtain rfl := Ze ZlS
     refine dp ?_
     refine dp ?_
     have ZjV := ift Zkd ZjV
     obtain rfl := Ze ZjV
     refine dp ?_
     refine dp ?_
     have ZiD := ift Zkd ZiD
     obtain rfl := Ze ZiD
     refine zgo ?_
     exact zwe
    ·have Zi7 := ife Zkd Zi7
     obtain ⟨ZEm, ZF1, Zi7⟩ := bind_some Zi7
     refine zgo ?_
     refine dp ?_
     refine dp ?_
     refine dr (Zr (Za.cells_eq x88) ZA2) ?_
     refine dp ?_
     refine dp ?_
     refine dp ?_
     refine dp ?_
     refine dr (Zr (Za.cells_eq ZEm) ZF1) ?_
     refine dp ?_
     refine dp ?_
     refine dp ?_
     obtain rfl := Ze Zi7
     refine zdp ?_
     refine zbf (fun Zpd => ?_) (fun Zpd => ?_)
     ·have ZlS := ift (an Zkd Zpd) ZlS
      obtain rfl := Ze ZlS
      refine zgo ?_
      refine dp ?_
      refine dp ?_
      have ZjV := ift (an Zkd Zpd) ZjV
      obtain rfl := Ze ZjV
      refine dp ?_
      refine dp ?_
      have ZiD := ift (an Zkd Zpd) ZiD
      obtain rfl := Ze ZiD
      refine zgo ?_
      exact zwe
     ·have ZlS := ife (an Zkd Zpd) ZlS
      obtain ⟨ZD9, ZHU, ZlS⟩ := bind_some ZlS
      obtain ⟨ZGQ, ZHt, ZlS⟩ := bind_some ZlS
      refine zgo ?_
      refine dp ?_
      refine dp ?_
      refine dr (Zr (Za.cells_eq x88) ZA2) ?_
      refine dp ?_
      refine dp ?_
      refine dp ?_
      refine dp ?_
      refine dr (Zr (Za.cells_eq ZD9) ZHU) ?_
      refine dp ?_
      refine dp ?_
      (refine st ?_; apply Exists.intro; apply Exists.intro; apply an; (focus ((conv => whnf); refine Exists.intro [] ?_; (conv => whnf); refine an rfl ?_; (conv => whnf); refine Zq.mono (Zq.weak (rn []) (ZfV ZHt) rfl (WS.mk (tc (tc ZcZ)) Zc6)) ?_; rintro d b ⟨rfl, rfl⟩; exact an rfl (an rfl rfl))); apply an; (focus exact rfl); (conv => whnf))
      refine dp ?_
      obtain rfl := Ze ZlS
      refine zdp ?_
      refine zbf (fun Zum => ?_) (fun Zum => ?_)
      ·have ZjV := ift (an Zkd (an Zpd Zum)) ZjV
       obtain rfl := Ze ZjV
       refine zgo ?_
       refine dp ?_
       refine dp ?_
       have ZiD := ift (an Zkd (an Zpd Zum)) ZiD
       obtain rfl := Ze ZiD
       refine zgo ?_
       exact zwe
      ·have ZjV := ife (an Zkd (an Zpd Zum)) ZjV
       obtain ⟨ZD5, ZFj, ZjV⟩ := bind_some ZjV
       obtain ⟨ZwV, Zz9, ZjV⟩ := bind_some ZjV
       refine zgo ?_
       refine dp ?_
       refine dp ?_
       refine dr (Zr (Za.cells_eq x88) ZA2) ?_
       refine dp ?_
       refine dp ?_
       refine dp ?_
       refine dp ?_
       refine dr (Zr (Za.cells_eq ZD5) ZFj) ?_
       refine dp ?_
       refine dp ?_
       (refine st ?_; apply Exists.intro; apply Exists.intro; apply an; (focus ((conv => whnf); refine Exists.intro [] ?_; (conv => whnf); refine an rfl ?_; (conv => whnf); refine Zq.mono (Zq.weak (rn []) (ZfV Zz9) rfl (WS.mk (tc (tc ZcZ)) Zc6)) ?_; rintro d b ⟨rfl, rfl⟩; exact an rfl (an rfl rfl))); apply an; (focus exact rfl); (conv => whnf))
       refine dp ?_
       obtain rfl := Ze ZjV
       refine zdp ?_
       refine zbf (fun Zz8 => ?_) (fun Zz8 => ?_)
       ·have ZiD := ift (an Zkd (an Zpd (an Zum Zz8))) ZiD
        obtain rfl := Ze ZiD
        refine zgo ?_
        exact zwe
       ·have ZiD := ife (an Zkd (an Zpd (an Zum Zz8))) ZiD
        obtain ⟨ZDP, ZFm, ZiD⟩ := bind_some ZiD
        obtain ⟨ZHy, ZE3, ZiD⟩ := bind_some ZiD
        refine zgo ?_
        refine dp ?_
        refine dp ?_
        refine dr (Zr (Za.cells_eq x88) ZA2) ?_
        refine dp ?_
        refine dp ?_
        refine dp ?_
        refine dp ?_
        refine dr (Zr (Za.cells_eq ZDP) ZFm) ?_
        refine zdp ?_
        refine zca [] [] [] (Zek _ _ _ ZE3) ?_
        obtain rfl := Ze ZiD
        refine zgo ?_
        exact zwe
   refine zbr hF (fun ZHv hF => ?_) (fun ZHv hF => ?_)
   ·obtain rfl := Ze hF
    exact zre []
   ·exact znl (Zfa _ _ _ _ _ hF _ (zlh ZeE) (zlk ZeB) hlen87 hlen5)
  ·subst ZDM
   obtain rfl := Ze hF
   exact zre []
 ·intro lazycref36_sameBinds' lazycref36_SameExpr_l1' Zmk Zfv a b r hF
  unfold ZbJ.M
  refine en Tryz.func74 ?_
  obtain ⟨c17, Zfr, hF⟩ := bind_some hF
  refine ns ?_
  refine sq (sq ?_)
  refine zck [2, 3] [2, 3] [(63, .c none (.v (.bool c17)))] ?_ ?_
  ·refine zbf (fun Znq => ?_) (fun Znq => ?_)
   ·have Zfr := ift Znq Zfr
    obtain rfl := Ze Zfr
    refine zgo ?_
    exact zwe
   ·refine zbf (fun ZqH => ?_) (fun ZqH => ?_)
    ·have Zfr := ift (an Znq ZqH) Zfr
     obtain rfl := Ze Zfr
     refine zgo ?_
     exact zwe
    ·refine zbf (fun ZmL => ?_) (fun ZmL => ?_)
     ·have Zfr := ift (an Znq (an ZqH ZmL)) Zfr
      obtain rfl := Ze Zfr
      refine zgo ?_
      exact zwe
     ·refine zln fun hlen10 => ?_
      refine zln fun hlen11 => ?_
      refine zbf (fun Zje => ?_) (fun Zje => ?_)
      ·have Zfr := ift (an Znq (an ZqH (an ZmL Zje))) Zfr
       obtain rfl := Ze Zfr
       refine zgo ?_
       exact zwe
      ·refine zln fun hlen12 => ?_
       refine zln fun hlen13 => ?_
       refine zbf (fun Zou => ?_) (fun Zou => ?_)
       ·have Zfr := ift (an Znq (an ZqH (an ZmL (an Zje Zou)))) Zfr
        obtain rfl := Ze Zfr
        refine zgo ?_
        exact zwe
       ·refine zln fun hlen14 => ?_
        refine zln fun hlen15 => ?_
        refine zbf (fun Zh4 => ?_) (fun Zh4 => ?_)
        ·have Zfr := ift (an Znq (an ZqH (an ZmL (an Zje (an Zou Zh4))))) Zfr
         obtain rfl := Ze Zfr
         refine zgo ?_
         exact zwe
        ·have Zfr := ife (an Znq (an ZqH (an ZmL (an Zje (an Zou Zh4))))) Zfr
         obtain ⟨r16, Ztl, Zfr⟩ := bind_some Zfr
         refine zca [] [] [] (Zmk _ _ _ Ztl) ?_
         obtain rfl := Ze Zfr
         refine zgo ?_
         exact zwe
  refine zbr hF (fun ZjD hF => ?_) (fun ZjD hF => ?_)
  ·obtain rfl := Ze hF
   exact zre []
  ·exact znl (Zfv _ _ _ _ _ hF ([]) rfl rfl)
 ·intro lazycref36_SameExpr_l1' lazycref36_SameExpr_l2' Zfv Zfo i_5 a b Zab r hF
  unfold Zal.M nL
  intro ZcC ZeE ZeB
  refine AWL.step ?_
  refine zln fun hlen72 => ?_
  refine zbl ZeE ZeB (fun x73 ZE2 ZEB ZIS hl75 => ?_) (fun ZEB => ?_)
  ·subst ZEB
   obtain ⟨x77, ZJN, hF⟩ := bind_some hF
   refine zdo 10 [71, 72, 73, 74, 75, 76, 77, 78, 79, 80] [1023, 1022, 1023, 1016, 1008, 1023, 991, 1023, 799, 543] ?_
   refine dp ?_
   refine dp ?_
   refine dp ?_
   refine dr (Zr (ZJ.cells_eq x73) ZIS) ?_
   refine dp ?_
   refine dp ?_
   refine dp ?_
   refine dp ?_
   refine dr (Zr (ZJ.cells_eq x77) ZJN) ?_
   refine zdp ?_
   refine zbr hF (fun ZJ2 hF => ?_) (fun ZJ2 hF => ?_)
   ·obtain rfl := Ze hF
    exact zre []
   ·exact znl (Zfv _ _ _ _ _ hF _ (zlh ZeE) (zlk ZeB))
  ·subst ZEB
   exact znl (Zfo _ _ _ _ _ hF ([]) rfl rfl hlen72)
 ·intro lazycref36_SameExpr' lazycref36_SameExpr_l2' lazycref36_SameExpr_l3' Zek Zfo Zfq i_6 a b ZcK r hF
  unfold Zav.M nL
  intro ZeX ZiR ZiK hlen72
  refine AWL.step ?_
  refine zln fun hlen136 => ?_
  refine zbl ZiR ZiK (fun Zwz ZCy ZAk ZHj hl139 => ?_) (fun ZAk => ?_)
  ·subst ZAk
   obtain ⟨ZD3, ZGH, hF⟩ := bind_some hF
   obtain ⟨Zwk, ZBg, hF⟩ := bind_some hF
   refine zdo 10 [89, 90, 91, 92, 93, 94, 95, 96, 97, 98] [1023, 1022, 1023, 1016, 1008, 1023, 991, 1023, 799, 543] ?_
   refine dp ?_
   refine dp ?_
   refine dp ?_
   refine dr (Zr (Zj.cells_eq Zwz) ZHj) ?_
   refine dp ?_
   refine dp ?_
   refine dp ?_
   refine dp ?_
   refine dr (Zr (Zj.cells_eq ZD3) ZGH) ?_
   refine zdp ?_
   refine zca [] [] [] (Zek _ _ _ ZBg) ?_
   refine zbr hF (fun ZAK hF => ?_) (fun ZAK hF => ?_)
   ·obtain rfl := Ze hF
    exact zre []
   ·exact znl (Zfo _ _ _ _ _ hF _ (zlh ZiR) (zlk ZiK) hlen72)
  ·subst ZAk
   exact znl (Zfq _ _ _ _ _ hF ([]) rfl rfl hlen72 hlen136)
 ·intro lazycref36_SameExpr' lazycref36_SameExpr_l3' Zek Zfq i_7 a b Zfd r hF
  unfold Zat.M nL
  intro ZiA ZnI ZnL hlen72 hlen136
  refine AWL.step ?_
  refine zln fun hlen173 => ?_
  refine zbl ZnI ZnL (fun ZwC ZCr ZBk ZG5 hl176 => ?_) (fun ZBk => ?_)
  ·subst ZBk
   obtain ⟨ZwP, ZHR, hF⟩ := bind_some hF
   refine zgo ?_
   refine Or.inl (Or.inl (Exists.intro 13 (Exists.intro [[], [], [], [], [], [], [], [], [], [], [8], [9], [8]] (Exists.intro [([108, 109, 110, 111, 112, 113, 114, 115, 116, 117, 8, 9], [8, 9], []), ([109, 110, 111, 112, 113, 114, 115, 116, 117, 8, 9], [8, 9], []), ([108, 109, 110, 111, 112, 113, 114, 115, 116, 117, 8, 9], [8, 9], []), ([111, 112, 113, 114, 115, 116, 117, 8, 9], [8, 9], []), ([112, 113, 114, 115, 116, 117, 8, 9], [8, 9], []), ([108, 109, 110, 111, 112, 113, 114, 115, 116, 117, 8, 9], [8, 9, 8], []), ([108, 109, 110, 111, 112, 114, 115, 116, 117, 8, 9], [8, 9, 8], []), ([108, 109, 110, 111, 112, 113, 114, 115, 116, 117, 8, 9], [8, 9, 8], []), ([108, 109, 110, 111, 112, 116, 117, 8, 9], [8, 9, 8], []), ([108, 109, 110, 111, 112, 117, 8, 9], [8, 9, 8], []), ([108, 109, 110, 111, 112, 113, 114, 115, 116, 117, 8, 9], [9], [8]), ([108, 109, 110, 111, 112, 113, 114, 115, 116, 117, 8, 9], [8], [9]), ([113, 114, 115, 116, 117], [], [8])] (Exists.intro [108, 109, 110, 111, 112, 113, 114, 115, 116, 117, 8, 9] (an (by decide +kernel) ?_))))))
   refine dp ?_
   refine dp ?_
   refine dp ?_
   refine dr (Zr (Zf.cells_eq ZwC) ZG5) ?_
   refine dp ?_
   refine dp ?_
   refine dp ?_
   refine dp ?_
   refine dr (Zr (Zf.cells_eq ZwP) ZHR) ?_
   refine dp ?_
   refine dp ?_
   refine dp ?_
   refine dp ?_
   obtain ⟨c180, Zld, hF⟩ := bind_some hF
   obtain ⟨c182, ZjM, hF⟩ := bind_some hF
   refine st ?_
   refine sq ?_
   refine zck [2, 3, 7] [2, 3] [(152, .c none (.v (.bool c182)))] ?_ ?_
   ·refine zbf (fun Zo8 => ?_) (fun Zo8 => ?_)
    ·have Zld := ZrY Zo8 Zld
     obtain rfl := Ze Zld
     have ZjM := ZrY Zo8 ZjM
     obtain rfl := Ze ZjM
     refine zgo ?_
     exact zwe
    ·refine zbf (fun ZqV => ?_) (fun ZqV => ?_)
     ·have Zld := ZrY (an Zo8 ZqV) Zld
      obtain rfl := Ze Zld
      have ZjM := ZrY (an Zo8 ZqV) ZjM
      obtain rfl := Ze ZjM
      refine zgo ?_
      exact zwe
     ·refine zbf (fun Zuh => ?_) (fun Zuh => ?_)
      ·have Zld := ZrY (an Zo8 (an ZqV Zuh)) Zld
       obtain rfl := Ze Zld
       have ZjM := ZrY (an Zo8 (an ZqV Zuh)) ZjM
       obtain rfl := Ze ZjM
       refine zgo ?_
       exact zwe
      ·have Zld := Zpw (an Zo8 (an ZqV Zuh)) Zld
       obtain ⟨ZFH, ZG6, Zld⟩ := bind_some Zld
       refine zca [] [] [] (ZfV ZG6) ?_
       obtain rfl := Ze Zld
       refine zbf (fun Zz0 => ?_) (fun Zz0 => ?_)
       ·have ZjM := ZrY (an Zo8 (an ZqV (an Zuh Zz0))) ZjM
        obtain rfl := Ze ZjM
        refine zgo ?_
        exact zwe
       ·have ZjM := Zpw (an Zo8 (an ZqV (an Zuh Zz0))) ZjM
        obtain ⟨ZF9, ZE8, ZjM⟩ := bind_some ZjM
        refine zca [] [] [] (Zek _ _ _ ZE8) ?_
        obtain rfl := Ze ZjM
        refine zgo ?_
        exact zwe
   refine zbr hF (fun ZGq hF => ?_) (fun ZGq hF => ?_)
   ·obtain rfl := Ze hF
    exact zre []
   ·exact znl (Zfq _ _ _ _ _ hF _ (zlh ZnI) (zlk ZnL) hlen72 hlen136)
  ·subst ZBk
   obtain rfl := Ze hF
   exact zre []
theorem ZlJ {a b r} (h : Zbt a b = some r) : Zbt.M a b r := ZlA.1 _ _ _ h

def ZdA (a : Zi) (b : Zi) : Option (Bool) :=
 (if (((a.fCons.length : Nat) : Int) != ((b.fCons.length : Nat) : Int)) = true then some true else Zbt a.fBinds b.fBinds >>= fun r8 =>
 some (!r8)) >>= fun c9 =>
 if c9 = true then
 some false
 else
 Zar 0 a b a.fCons
def ZdA.M (a : Zi) (b : Zi) (r : Bool) : Prop :=
 Zq Tryz.prog 15 [.agg [.sl (a.fCons.map Zk.cells), .sl (a.fBinds.map Za.cells)], .agg [.sl (b.fCons.map Zk.cells), .sl (b.fBinds.map Za.cells)]] [] (fun d b => d = .c none (.v (.bool r)) ∧ b = [])
theorem Zpi {a b r} (hF : ZdA a b = some r) : ZdA.M a b r := by
 unfold ZdA at hF
 unfold ZdA.M
 refine en Tryz.func15 ?_
 obtain ⟨c9, hc9, hF⟩ := bind_some hF
 refine ns ?_
 refine sq (sq ?_)
 refine zck [2, 3] [2, 3] [(20, .c none (.v (.bool c9)))] ?_ ?_
 ·refine zln fun hlen6 => ?_
  refine zln fun hlen7 => ?_
  refine zbf (fun ZhI => ?_) (fun ZhI => ?_)
  ·have hc9 := ift ZhI hc9
   obtain rfl := Ze hc9
   refine zgo ?_
   exact zwe
  ·have hc9 := ife ZhI hc9
   obtain ⟨r8, hr8, hc9⟩ := bind_some hc9
   refine zca [] [] [] (ZlJ hr8) ?_
   obtain rfl := Ze hc9
   refine zgo ?_
   exact zwe
 refine zbr hF (fun Zeo hF => ?_) (fun Zeo hF => ?_)
 ·obtain rfl := Ze hF
  exact zre []
 ·exact znl (ZnA hF ([]) rfl rfl)

def Zdf (p : Zi) (q : Zi) : Option (Bool) :=
 Zde p >>= fun r6 =>
 (if (!r6) = true then some true else Zde q >>= fun r7 =>
 some (!r7)) >>= fun c8 =>
 if c8 = true then
 Zcl >>= fun r11 =>
 some r11
 else
 ZeF p >>= fun r21 =>
 Zd5 p >>= fun r22 =>
 (if (r21 == r22) = true then ZiC p q >>= fun r23 =>
 ZdA p q >>= fun r24 =>
 some (r23 == r24) else some false) >>= fun c25 =>
 (if c25 = true then ZiC p p >>= fun r26 =>
 some r26 else some false) >>= fun c27 =>
 (if c27 = true then Zcl >>= fun r28 =>
 some r28 else some false) >>= fun c29 =>
 some c29
def Zdf.M (p : Zi) (q : Zi) (r : Bool) : Prop :=
 Zq Tryz.prog 8 [.agg [.sl (p.fCons.map Zk.cells), .sl (p.fBinds.map Za.cells)], .agg [.sl (q.fCons.map Zk.cells), .sl (q.fBinds.map Za.cells)]] [] (fun d b => d = .c none (.v (.bool r)) ∧ b = [])
theorem Zm4 {p q r} (hF : Zdf p q = some r) : Zdf.M p q r := by
 unfold Zdf at hF
 unfold Zdf.M
 refine en Tryz.func8 ?_
 obtain ⟨r6, hr6, hF⟩ := bind_some hF
 obtain ⟨c8, hc8, hF⟩ := bind_some hF
 refine ns ?_
 refine sq (sq ?_)
 refine zck [2, 3] [2, 3] [(12, .c none (.v (.bool c8)))] ?_ ?_
 ·refine zca [] [] [] (ZhQ hr6) ?_
  refine zbf (fun hc9 => ?_) (fun hc9 => ?_)
  ·have hc8 := ift hc9 hc8
   obtain rfl := Ze hc8
   refine zgo ?_
   exact zwe
  ·have hc8 := ife hc9 hc8
   obtain ⟨r7, hr7, hc8⟩ := bind_some hc8
   refine zca [] [] [] (ZhQ hr7) ?_
   obtain rfl := Ze hc8
   refine zgo ?_
   exact zwe
 refine zbr hF (fun ZhI hF => ?_) (fun ZhI hF => ?_)
 ·obtain ⟨r11, Zu6, hF⟩ := bind_some hF
  refine zca [] [] [] (Zfj Zu6) ?_
  obtain rfl := Ze hF
  exact zre []
 ·obtain ⟨r21, ZJ5, hF⟩ := bind_some hF
  obtain ⟨r22, ZEw, hF⟩ := bind_some hF
  obtain ⟨c25, Znk, hF⟩ := bind_some hF
  obtain ⟨c27, Znu, hF⟩ := bind_some hF
  obtain ⟨c29, ZoR, hF⟩ := bind_some hF
  refine nw ?_
  refine sq ?_
  refine zck [] [] [(4, .c none (.v (.bool c29)))] ?_ ?_
  ·refine zdo 17 [14, 15, 16, 17, 18, 19, 20, 21, 22, 23, 24, 25, 26, 27, 28, 29, 30] [131071, 131070, 131071, 131064, 131056, 131040, 131008, 131008, 130816, 131008, 131008, 129024, 126976, 122880, 114688, 98304, 98304] ?_
   refine dp ?_
   (refine st ?_; apply Exists.intro; apply Exists.intro; apply an; (focus ((conv => whnf); refine Exists.intro [] ?_; (conv => whnf); refine an rfl ?_; (conv => whnf); refine Zq.mono (Zq.weak (rn []) (Zj5 ZJ5) rfl (WS.mk (ZcI (ZgG (lc (lc Zn))) ZcZ) Zc6)) ?_; rintro d b ⟨rfl, rfl⟩; exact an rfl (an rfl rfl))); apply an; (focus exact rfl); (conv => whnf))
   refine dp ?_
   (refine st ?_; apply Exists.intro; apply Exists.intro; apply an; (focus ((conv => whnf); refine Exists.intro [] ?_; (conv => whnf); refine an rfl ?_; (conv => whnf); refine Zq.mono (Zq.weak (rn []) (Zo1 ZEw) rfl (WS.mk (ZcI (ZgG (lc (lc Zn))) ZcZ) Zc6)) ?_; rintro d b ⟨rfl, rfl⟩; exact an rfl (an rfl rfl))); apply an; (focus exact rfl); (conv => whnf))
   refine zdp ?_
   refine zbt (fun ZrI => ?_) (fun ZrI => ?_)
   ·have Znk := ift ZrI Znk
    obtain ⟨r23, ZCJ, Znk⟩ := bind_some Znk
    obtain ⟨r24, ZIr, Znk⟩ := bind_some Znk
    refine zgo ?_
    refine dp ?_
    refine dp ?_
    (refine st ?_; apply Exists.intro; apply Exists.intro; apply an; (focus ((conv => whnf); refine Exists.intro [] ?_; (conv => whnf); refine an rfl ?_; (conv => whnf); refine Zq.mono (Zq.weak (rn []) (ZqS ZCJ) rfl (WS.mk (ZcI (ZgG (lc (lc Zn))) (ZcI (ZgG (lc (lc Zn))) ZcZ)) Zc6)) ?_; rintro d b ⟨rfl, rfl⟩; exact an rfl (an rfl rfl))); apply an; (focus exact rfl); (conv => whnf))
    refine dp ?_
    refine dp ?_
    (refine st ?_; apply Exists.intro; apply Exists.intro; apply an; (focus ((conv => whnf); refine Exists.intro [] ?_; (conv => whnf); refine an rfl ?_; (conv => whnf); refine Zq.mono (Zq.weak (rn []) (Zpi ZIr) rfl (WS.mk (ZcI (ZgG (lc (lc Zn))) (ZcI (ZgG (lc (lc Zn))) ZcZ)) Zc6)) ?_; rintro d b ⟨rfl, rfl⟩; exact an rfl (an rfl rfl))); apply an; (focus exact rfl); (conv => whnf))
    refine dp ?_
    obtain rfl := Ze Znk
    refine zdp ?_
    refine zbt (fun ZyK => ?_) (fun ZyK => ?_)
    ·have Znu := ift (an ZrI ZyK) Znu
     obtain ⟨r26, ZJP, Znu⟩ := bind_some Znu
     refine zdp ?_
     refine zca [] [] [] (ZqS ZJP) ?_
     obtain rfl := Ze Znu
     refine zbt (fun ZDA => ?_) (fun ZDA => ?_)
     ·have ZoR := ift (an ZrI (an ZyK ZDA)) ZoR
      obtain ⟨r28, ZjQ, ZoR⟩ := bind_some ZoR
      refine zca [] [] [] (Zfj ZjQ) ?_
      obtain rfl := Ze ZoR
      refine zgo ?_
      exact zwe
     ·have ZoR := ife (an ZrI (an ZyK ZDA)) ZoR
      obtain rfl := Ze ZoR
      refine zgo ?_
      exact zwe
    ·have Znu := ife (an ZrI ZyK) Znu
     obtain rfl := Ze Znu
     have ZoR := ife (an ZrI ZyK) ZoR
     obtain rfl := Ze ZoR
     refine zgo ?_
     exact zwe
   ·have Znk := ife ZrI Znk
    obtain rfl := Ze Znk
    refine zgo ?_
    refine dp ?_
    refine dp ?_
    have Znu := ife ZrI Znu
    obtain rfl := Ze Znu
    have ZoR := ife ZrI ZoR
    obtain rfl := Ze ZoR
    refine zgo ?_
    exact zwe
  obtain rfl := Ze hF
  exact zre []

theorem Zo {α β : Type} (x : α) (f : α → Option β) : (some x >>= f) = f x := rfl
theorem ZdN {p : Prop} [Decidable p] {β : Type} (f : Unit → Option β) (h : p) : (ZaK p >>= f) = f () := by unfold ZaK; rw [if_pos h]; rfl
theorem ifT {α : Type} (a b : α) : (if true = true then a else b) = a := rfl
theorem ifF {α : Type} (a b : α) : (if false = true then a else b) = b := rfl
theorem w64 {x : Int} (h : -9223372036854775808 ≤ x) (h' : x ≤ 9223372036854775807) : IntKind.i64.wrap x = x := IntWalk.i64_in x ⟨h, by omega⟩
theorem ZyL {a b : ByteArray} (h : a.data.toList = b.data.toList) : a = b := by
 obtain ⟨⟨l⟩⟩ := a; obtain ⟨⟨k⟩⟩ := b
 simp only at h; rw [h]
theorem Zwf (s : ByteArray) : s.toList = s.data.toList := by
 have key : ∀ (n i : Nat) (r : List UInt8), s.size - i = n → ByteArray.toList.loop s i r = r.reverse ++ s.data.toList.drop i := by
  intro n
  induction n with
  | zero =>
   intro i r h
   rw [ByteArray.toList.loop, if_neg (by omega), List.drop_eq_nil_of_le (by show s.data.toList.length ≤ i; simp; have : s.data.size = s.size := rfl; omega), List.append_nil]
  | succ n ih =>
   intro i r h
   have hi : i < s.size := by omega
   rw [ByteArray.toList.loop, if_pos hi, ih (i + 1) _ (by omega)]
   have hd : s.data.toList.drop i = s.data.toList[i]'(by simpa using hi) :: s.data.toList.drop (i + 1) := (List.drop_eq_getElem_cons (by simpa using hi))
   rw [hd]
   have : s.get! i = s.data.toList[i]'(by simpa using hi) := by
    have hi' : i < s.data.size := hi
    show s.data[i]! = _
    rw [getElem!_pos s.data i hi']; simp
   rw [this]; simp
 show ByteArray.toList.loop s 0 [] = _
 rw [key _ 0 [] rfl]; simp
theorem Zf1 (a b : ByteArray) : (a.toList == b.toList) = decide (a = b) := by
 rw [Bool.eq_iff_iff]
 simp only [beq_iff_eq, decide_eq_true_eq, Zwf]
 exact ⟨ZyL, fun h => by rw [h]⟩
def Zj.vol (e : Zj) : Nat := Zcc e.cells
def Za.vol (e : Za) : Nat := Zcc e.cells
def Zf.vol (e : Zf) : Nat := Zcc e.cells
theorem Zeh {α : Type} {f : α → List E} {x : α} : ∀ {l : List α}, x ∈ l → Zcc (f x) ≤ ZfO (l.map f)
 | y :: l, h => by
  rw [List.map_cons, ZfO]
  rcases List.mem_cons.1 h with rfl | h
  ·omega
  ·have := Zeh (f := f) h; omega
theorem Zka {α : Type} {f : α → List E} (x : α) (l : List α) : ZfO ((x :: l).map f) = Zcc (f x) + ZfO (l.map f) := by rw [List.map_cons, ZfO]
def sB (l : List ByteArray) : Nat := ZfO (l.map c_S)
def aB (l : List ZJ) : Nat := ZfO (l.map ZJ.cells)
def bB (l : List Za) : Nat := ZfO (l.map Za.cells)
def kB (l : List Zj) : Nat := ZfO (l.map Zj.cells)
def lB (l : List Zf) : Nat := ZfO (l.map Zf.cells)
theorem Zs4 (e : Zj) : e.vol = e.fName.size + aB e.fArgs + bB e.fBinds + kB e.fKids + lB e.fAlts + 7 := by
 unfold Zj.vol aB bB kB lB
 rw [Zj.cells_eq]
 simp only [Zcc, ZlG]
 omega
theorem ZfS (b : Za) : b.vol = b.fName.size + sB b.fFree + sB b.fParams + b.fBody.vol + 4 := by
 unfold Za.vol Zj.vol sB
 rw [Za.cells_eq, Zj.cells_eq]
 simp only [Zcc, ZlG]
 omega
theorem Ziz (b : Zf) : b.vol = b.fName.size + sB b.fVars + b.fBody.vol + 4 := by
 unfold Zf.vol Zj.vol sB
 rw [Zf.cells_eq, Zj.cells_eq]
 simp only [Zcc, ZlG]
 omega
theorem ZBV (a : ZJ) (l : List ZJ) : aB (a :: l) = a.fName.size + 3 + aB l := by
 unfold aB; rw [Zka]; simp only [ZJ.cells, Zcc, ZlG]; omega
theorem Zlk (b : Za) (l : List Za) : bB (b :: l) = b.vol + bB l := Zka b l
theorem ZoO (b : Zj) (l : List Zj) : kB (b :: l) = b.vol + kB l := Zka b l
theorem ZoL (b : Zf) (l : List Zf) : lB (b :: l) = b.vol + lB l := Zka b l
theorem ZBM (b : ByteArray) (l : List ByteArray) : sB (b :: l) = b.size + 1 + sB l := by
 unfold sB; rw [Zka]; simp only [c_S, Zcc, ZlG]
theorem Zjo : ∀ l : List ByteArray, l.length ≤ sB l
 | [] => Nat.zero_le _
 | x :: l => by rw [ZBM, List.length_cons]; have := Zjo l; omega
theorem ZuW : ∀ l : List ZJ, l.length ≤ aB l
 | [] => Nat.zero_le _
 | x :: l => by rw [ZBV, List.length_cons]; have := ZuW l; omega
theorem Zpv : ∀ l : List Za, l.length ≤ bB l
 | [] => Nat.zero_le _
 | x :: l => by rw [Zlk, List.length_cons]; have := Zpv l; have := ZfS x; omega
theorem Zzw : ∀ l : List Zf, l.length ≤ lB l
 | [] => Nat.zero_le _
 | x :: l => by rw [ZoL, List.length_cons]; have := Zzw l; have := Ziz x; omega
theorem ZA4 {M : Zj → Prop} (h : ∀ e, (∀ x : Zj, x.vol < e.vol → M x) → M e) (e : Zj) : M e := by
 have key : ∀ (n : Nat) (e : Zj), e.vol < n → M e := by
  intro n
  induction n with
  | zero => intro e he; omega
  | succ n ih => intro e he; exact h e fun x hx => ih x (by omega)
 exact key (e.vol + 1) e (by omega)
theorem Zul (e : Zj) (hv : e.vol ≤ 1000000000) : ∃ n : Nat, n ≤ e.vol ∧ ZcY e = some ((n : Nat) : Int) ∧ ZaJ e = some ((n : Nat) : Int) := by
 revert hv
 refine ZA4 (M := fun e => e.vol ≤ 1000000000 → ∃ n : Nat, n ≤ e.vol ∧ ZcY e = some ((n : Nat) : Int) ∧ ZaJ e = some ((n : Nat) : Int)) (fun e ih hv => ?_) e
 have hve := Zs4 e
 have h3 : ∀ (l : List Zj) (n i : Nat), (∀ x ∈ l, x.vol < e.vol) → n + kB l ≤ 1000000000 → ∃ m : Nat, m ≤ n + kB l ∧ ZdP n e i l = some ((m : Nat) : Int) ∧ ZcH n i e l = some ((m : Nat) : Int) := by
  intro l
  induction l with
  | nil => intro n i _ _; exact ⟨n, by omega, by rw [ZdP], by rw [ZcH]⟩
  | cons x l ih2 =>
   intro n i hl hn
   rw [ZoO] at hn
   obtain ⟨k, hk, k1, k2⟩ := ih x (hl x (by simp)) (by omega)
   obtain ⟨m, hm, m1, m2⟩ := ih2 (n + k) (i + 1) (fun y hy => hl y (by simp [hy])) (by omega)
   have hw : IntKind.i64.wrap (((n : Nat) : Int) + ((k : Nat) : Int)) = ((n + k : Nat) : Int) := by rw [w64 (by omega) (by omega)]; omega
   refine ⟨m, by rw [ZoO]; omega, ?_, ?_⟩
   ·rw [ZdP]; show (ZcY x >>= _) = _; rw [k1, Zo, hw, m1]
   ·rw [ZcH]; show (ZaJ x >>= _) = _; rw [k2, Zo, hw, m2]
 have h2 : ∀ (l : List Zf) (n i : Nat), (∀ x ∈ l, x.fBody.vol < e.vol) → n + lB l + kB e.fKids ≤ 1000000000 → ∃ m : Nat, m ≤ n + lB l + kB e.fKids ∧ ZdO n e i l = some ((m : Nat) : Int) ∧ ZcE n i e l = some ((m : Nat) : Int) := by
  intro l
  induction l with
  | nil =>
   intro n i _ hn
   obtain ⟨m, hm, m1, m2⟩ := h3 e.fKids n 0 (fun x hx => by have := Zeh (f := Zj.cells) hx; have h : x.vol ≤ kB e.fKids := this; omega) (by unfold lB at hn; simp [ZfO] at hn; omega)
   exact ⟨m, by unfold lB; simp [ZfO]; omega, by rw [ZdO]; exact m1, by rw [ZcE]; exact m2⟩
  | cons x l ih2 =>
   intro n i hl hn
   rw [ZoL] at hn
   have hx := Ziz x
   obtain ⟨k, hk, k1, k2⟩ := ih x.fBody (hl x (by simp)) (by omega)
   obtain ⟨m, hm, m1, m2⟩ := ih2 (n + 1 + k) (i + 1) (fun y hy => hl y (by simp [hy])) (by omega)
   have hw : IntKind.i64.wrap (((n : Nat) : Int) + IntKind.i64.wrap (1 + ((k : Nat) : Int))) = ((n + 1 + k : Nat) : Int) := by rw [w64 (x := 1 + ((k : Nat) : Int)) (by omega) (by omega), w64 (by omega) (by omega)]; omega
   have hw2 : IntKind.i64.wrap (IntKind.i64.wrap (((n : Nat) : Int) + 1) + ((k : Nat) : Int)) = ((n + 1 + k : Nat) : Int) := by rw [w64 (x := ((n : Nat) : Int) + 1) (by omega) (by omega), w64 (by omega) (by omega)]; omega
   refine ⟨m, by rw [ZoL]; omega, ?_, ?_⟩
   ·rw [ZdO]; show (ZcY x.fBody >>= _) = _; rw [k1, Zo, hw, m1]
   ·rw [ZcE]; show (ZaJ x.fBody >>= _) = _; rw [k2, Zo, hw2, m2]
 have h1 : ∀ (l : List Za) (n i : Nat), (∀ x ∈ l, x.fBody.vol < e.vol) → n + bB l + lB e.fAlts + kB e.fKids ≤ 1000000000 → ∃ m : Nat, m ≤ n + bB l + lB e.fAlts + kB e.fKids ∧ ZdK n e i l = some ((m : Nat) : Int) ∧ ZcF n i e l = some ((m : Nat) : Int) := by
  intro l
  induction l with
  | nil =>
   intro n i _ hn
   obtain ⟨m, hm, m1, m2⟩ := h2 e.fAlts n 0 (fun x hx => by have := Zeh (f := Zf.cells) hx; have h : x.vol ≤ lB e.fAlts := this; have := Ziz x; omega) (by unfold bB at hn; simp [ZfO] at hn; omega)
   exact ⟨m, by unfold bB; simp [ZfO]; omega, by rw [ZdK]; exact m1, by rw [ZcF]; exact m2⟩
  | cons x l ih2 =>
   intro n i hl hn
   rw [Zlk] at hn
   have hx := ZfS x
   obtain ⟨k, hk, k1, k2⟩ := ih x.fBody (hl x (by simp)) (by omega)
   obtain ⟨m, hm, m1, m2⟩ := ih2 (n + 1 + k) (i + 1) (fun y hy => hl y (by simp [hy])) (by omega)
   have hw : IntKind.i64.wrap (((n : Nat) : Int) + IntKind.i64.wrap (1 + ((k : Nat) : Int))) = ((n + 1 + k : Nat) : Int) := by rw [w64 (x := 1 + ((k : Nat) : Int)) (by omega) (by omega), w64 (by omega) (by omega)]; omega
   have hw2 : IntKind.i64.wrap (IntKind.i64.wrap (((n : Nat) : Int) + 1) + ((k : Nat) : Int)) = ((n + 1 + k : Nat) : Int) := by rw [w64 (x := ((n : Nat) : Int) + 1) (by omega) (by omega), w64 (by omega) (by omega)]; omega
   refine ⟨m, by rw [Zlk]; omega, ?_, ?_⟩
   ·rw [ZdK]; show (ZcY x.fBody >>= _) = _; rw [k1, Zo, hw, m1]
   ·rw [ZcF]; show (ZaJ x.fBody >>= _) = _; rw [k2, Zo, hw2, m2]
 have ha := ZuW e.fArgs
 obtain ⟨m, hm, m1, m2⟩ := h1 e.fBinds (1 + e.fArgs.length) 0 (fun x hx => by have := Zeh (f := Za.cells) hx; have h : x.vol ≤ bB e.fBinds := this; have := ZfS x; omega) (by omega)
 have hw : IntKind.i64.wrap (1 + ((e.fArgs.length : Nat) : Int)) = ((1 + e.fArgs.length : Nat) : Int) := by rw [w64 (by omega) (by omega)]; omega
 refine ⟨m, by omega, ?_, ?_⟩
 ·rw [ZcY, hw, m1]
 ·rw [ZaJ, hw, m2]

theorem Zv8 (a b : ByteArray) : (a == b) = decide (a = b) := by
 obtain ⟨x⟩ := a; obtain ⟨y⟩ := b
 rw [Bool.eq_iff_iff]
 show ((x == y) = true ↔ _)
 simp
instance lawB : LawfulBEq ByteArray where
 eq_of_beq h := by rw [Zv8] at h; exact of_decide_eq_true h
 rfl {a} := (Zv8 a a).trans (decide_eq_true rfl)
theorem Zkz {β : Type} (x k : ByteArray) (v : β) : ∀ c : List (ByteArray × β), Zeq x (Ze0 c k v) = if x = k then some v else Zeq x c
 | [] => by
  rw [Ze0, Zeq, Zeq, Zv8]
  by_cases h : x = k
  ·rw [decide_eq_true h, ifT, if_pos h]
  ·rw [decide_eq_false h, ifF, if_neg h]; rfl
 | p :: c => by
  rw [Ze0, Zv8]
  by_cases hk : k = p.1
  ·rw [decide_eq_true hk, ifT, Zeq, Zeq, Zv8, Zv8]
   by_cases h : x = k
   ·rw [decide_eq_true h, ifT, if_pos h]
   ·rw [decide_eq_false h, ifF, if_neg h, decide_eq_false (fun e => h (e.trans hk.symm)), ifF]
  ·rw [decide_eq_false hk, ifF, Zeq, Zeq, Zv8, Zkz x k v c]
   by_cases h : x = p.1
   ·rw [decide_eq_true h, ifT, ifT, if_neg (fun e => hk (e.symm.trans h))]
   ·rw [decide_eq_false h, ifF, ifF]
abbrev CM := List (ByteArray × Int)
def bg (m : CM) (x : ByteArray) : Int := (Zeq x m).getD 0
def sg (m : List (ByteArray × Bool)) (x : ByteArray) : Bool := (Zeq x m).getD false
theorem Zdm (m : CM) (x : ByteArray) : ∃ b, ZbW m 0 x = some (bg m x, b) := by
 unfold ZbW bg
 cases Zeq x m with
 | some v => exact ⟨true, rfl⟩
 | none => exact ⟨false, rfl⟩
theorem Zs9 (m : List (ByteArray × Bool)) (x : ByteArray) : ∃ b, ZbW m false x = some (sg m x, b) := by
 unfold ZbW sg
 cases Zeq x m with
 | some v => exact ⟨true, rfl⟩
 | none => exact ⟨false, rfl⟩
theorem ZuM (m : CM) (k : ByteArray) (v : Int) (x : ByteArray) : bg (Ze0 m k v) x = if x = k then v else bg m x := by
 unfold bg; rw [Zkz]; by_cases h : x = k
 ·rw [if_pos h, if_pos h]; rfl
 ·rw [if_neg h, if_neg h]
theorem Zw1 (m : List (ByteArray × Bool)) (k : ByteArray) (v : Bool) (x : ByteArray) : sg (Ze0 m k v) x = if x = k then v else sg m x := by
 unfold sg; rw [Zkz]; by_cases h : x = k
 ·rw [if_pos h, if_pos h]; rfl
 ·rw [if_neg h, if_neg h]
def cnt (x : ByteArray) : List ByteArray → Int
 | [] => 0
 | y :: l => (if x = y then 1 else 0) + cnt x l
theorem ZvK (x y : ByteArray) (l : List ByteArray) : cnt x (y :: l) = (if x = y then 1 else 0) + cnt x l := rfl
def upM (m : CM) : List ByteArray → CM
 | [] => m
 | y :: l => upM (Ze0 m y (IntKind.i64.wrap (bg m y + 1))) l
def dnM (m : CM) : List ByteArray → CM
 | [] => m
 | y :: l => dnM (Ze0 m y (IntKind.i64.wrap (bg m y - 1))) l
theorem Zpy (x : ByteArray) : ∀ l, 0 ≤ cnt x l
 | [] => Int.le_refl _
 | y :: l => by unfold cnt; have := Zpy x l; split <;> omega
theorem Ztc (x : ByteArray) : ∀ l, cnt x l ≤ l.length
 | [] => Int.le_refl _
 | y :: l => by unfold cnt; have := Ztc x l; rw [List.length_cons]; split <;> omega
theorem ZxW (x : ByteArray) : ∀ l, cnt x l ≠ 0 ↔ x ∈ l
 | [] => by simp [cnt]
 | y :: l => by
  unfold cnt
  have h1 := ZxW x l
  have h2 := Zpy x l
  rw [List.mem_cons]
  by_cases h : x = y
  ·rw [if_pos h]; exact ⟨fun _ => .inl h, fun _ => by omega⟩
  ·rw [if_neg h]
   rw [show (0 : Int) + cnt x l = cnt x l by omega]
   rw [h1]
   exact ⟨.inr, fun hh => hh.resolve_left h⟩
theorem ZqQ : ∀ (l : List ByteArray) (m : CM), (∀ x, 0 ≤ bg m x ∧ bg m x + l.length ≤ 100000000000) → ∀ x, bg (upM m l) x = bg m x + cnt x l
 | [], m, _, x => by rw [upM, cnt]; omega
 | y :: l, m, h, x => by
  unfold upM
  have hy := h y
  rw [List.length_cons] at hy
  have hw : IntKind.i64.wrap (bg m y + 1) = bg m y + 1 := w64 (by omega) (by omega)
  rw [hw, ZqQ l _ (fun z => ?_) x, ZuM]
  ·rw [ZvK]
   by_cases e : x = y
   ·rw [if_pos e, if_pos e, e]; omega
   ·rw [if_neg e, if_neg e]; omega
  ·have hz := h z
   rw [List.length_cons] at hz
   rw [ZuM]
   by_cases e : z = y
   ·rw [if_pos e]; omega
   ·rw [if_neg e]; omega
theorem ZAL : ∀ (l : List ByteArray) (m : CM), (∀ x, -100000000000 ≤ bg m x - l.length ∧ bg m x ≤ 100000000000) → ∀ x, bg (dnM m l) x = bg m x - cnt x l
 | [], m, _, x => by rw [dnM, cnt]; omega
 | y :: l, m, h, x => by
  unfold dnM
  have hy := h y
  rw [List.length_cons] at hy
  have hw : IntKind.i64.wrap (bg m y - 1) = bg m y - 1 := w64 (by omega) (by omega)
  rw [hw, ZAL l _ (fun z => ?_) x, ZuM]
  ·rw [ZvK]
   by_cases e : x = y
   ·rw [if_pos e, if_pos e, e]; omega
   ·rw [if_neg e, if_neg e]; omega
  ·have hz := h z
   rw [List.length_cons] at hz
   rw [ZuM]
   by_cases e : z = y
   ·rw [if_pos e]; omega
   ·rw [if_neg e]; omega
def pr (m : CM) (x : ByteArray) : Bool := decide (bg m x ≠ 0)
def mb (l : List ByteArray) (x : ByteArray) : Bool := decide (x ∈ l)
theorem ZCn {l : List ByteArray} {m : CM} (h : ∀ x, 0 ≤ bg m x ∧ bg m x + l.length ≤ 100000000000) : pr (upM m l) = fun x => pr m x || mb l x := by
 funext x
 unfold pr mb
 rw [ZqQ l m h x, Bool.eq_iff_iff]
 have h1 := Zpy x l
 have h2 := ZxW x l
 have h3 := (h x).1
 simp only [decide_eq_true_eq, Bool.or_eq_true]
 rw [← h2]
 omega
theorem Zj2 {m m' : CM} (h : ∀ x, bg m' x = bg m x) : pr m' = pr m := by funext x; unfold pr; rw [h x]
theorem Zzk : pr [] = fun _ => false := by funext x; rfl
theorem Zu5 : mb [] = fun _ => false := by funext x; rfl
def ad (P : ByteArray → Bool) : List ByteArray → List ByteArray → List ByteArray
 | out, [] => out
 | out, x :: l => if (decide (x ∈ out) || P x) = true then ad P out l else ad P (out ++ [x]) l
theorem Zpg (P : ByteArray → Bool) : ∀ (l out : List ByteArray), (ad P out l).length ≤ out.length + l.length
 | [], out => by simp [ad]
 | x :: l, out => by
  unfold ad
  split
  ·have := Zpg P l out; rw [List.length_cons]; omega
  ·have := Zpg P l (out ++ [x]); rw [List.length_cons]; simp at this; omega
theorem ZwL (P : ByteArray → Bool) (x : ByteArray) : ∀ (l out : List ByteArray), x ∈ ad P out l ↔ x ∈ out ∨ (x ∈ l ∧ P x = false)
 | [], out => by simp [ad]
 | y :: l, out => by
  unfold ad
  split
  ·rename_i h
   rw [ZwL P x l out, List.mem_cons]
   rw [Bool.or_eq_true, decide_eq_true_eq] at h
   constructor
   ·rintro (h1 | h1)
    ·exact .inl h1
    ·exact .inr ⟨.inr h1.1, h1.2⟩
   ·rintro (h1 | ⟨rfl | h1, h2⟩)
    ·exact .inl h1
    ·rcases h with h | h
     ·exact .inl h
     ·rw [h] at h2; cases h2
    ·exact .inr ⟨h1, h2⟩
  ·rename_i h
   rw [ZwL P x l (out ++ [y]), List.mem_cons, List.mem_append, List.mem_singleton]
   rw [Bool.or_eq_true, decide_eq_true_eq, not_or] at h
   constructor
   ·rintro ((h1 | rfl) | h1)
    ·exact .inl h1
    ·exact .inr ⟨.inl rfl, by simpa using h.2⟩
    ·exact .inr ⟨.inr h1.1, h1.2⟩
   ·rintro (h1 | ⟨rfl | h1, h2⟩)
    ·exact .inl (.inl h1)
    ·exact .inl (.inr rfl)
    ·exact .inr ⟨h1, h2⟩
theorem Zmc (P : ByteArray → Bool) : ∀ (l out : List ByteArray), out.Nodup → (ad P out l).Nodup
 | [], out, h => h
 | x :: l, out, h => by
  rw [ad]
  split
  ·exact Zmc P l out h
  ·rename_i hx
   rw [Bool.or_eq_true, decide_eq_true_eq, not_or] at hx
   refine Zmc P l _ (List.nodup_append.2 ⟨h, by simp, fun a ha b hb => ?_⟩)
   rw [List.mem_singleton] at hb
   subst hb
   exact fun e => hx.1 (e ▸ ha)
theorem Zye : ∀ (l out : List ByteArray), (out ++ l).Nodup → ad (fun _ => false) out l = out ++ l
 | [], out, h => (List.append_nil _).symm
 | x :: l, out, h => by
  rw [ad, if_neg, Zye l (out ++ [x]) (by simpa using h)]
  ·simp
  ·rw [Bool.or_false, decide_eq_true_eq]
   intro hx
   have := (List.nodup_append.1 h).2.2 x hx x (by simp)
   exact this rfl
theorem ZwR (P : ByteArray → Bool) : ∀ (a b out : List ByteArray), ad P out (a ++ b) = ad P (ad P out a) b
 | [], b, out => rfl
 | x :: a, b, out => by
  rw [List.cons_append, ad, ad]
  split
  ·rw [ZwR P a b out]
  ·rw [ZwR P a b]
theorem ZsR (B P : ByteArray → Bool) : ∀ (l acc out : List ByteArray), ad B out (ad P acc l) = ad (fun x => B x || P x) (ad B out acc) l
 | [], acc, out => rfl
 | x :: l, acc, out => by
  rw [ad, ad]
  by_cases h1 : (decide (x ∈ acc) || P x) = true
  ·rw [if_pos h1, ZsR B P l acc out]
   rw [Bool.or_eq_true, decide_eq_true_eq] at h1
   rw [if_pos]
   rw [Bool.or_eq_true, decide_eq_true_eq, Bool.or_eq_true, ZwL]
   rcases h1 with h1 | h1
   ·cases hb : B x with
    | true => exact .inr (.inl rfl)
    | false => exact .inl (.inr ⟨h1, rfl⟩)
   ·exact .inr (.inr h1)
  ·rw [if_neg h1, ZsR B P l (acc ++ [x]) out, ZwR]
   rw [Bool.or_eq_true, decide_eq_true_eq, not_or] at h1
   have hp : P x = false := by simpa using h1.2
   rw [hp, Bool.or_false]
   show ad _ (ad B (ad B out acc) [x]) l = _
   rw [ad]
   by_cases h2 : (decide (x ∈ ad B out acc) || B x) = true
   ·rw [if_pos h2, if_pos h2]; rfl
   ·rw [if_neg h2, if_neg h2]; rfl
theorem ZDa (B P : ByteArray → Bool) (l out : List ByteArray) : ad B out (ad P [] l) = ad (fun x => B x || P x) out l := by rw [ZsR]; rfl
theorem Zvp (l : List ByteArray) (s : ByteArray) : Zc9 l s = some (mb l s) := by
 have key : ∀ (r : List ByteArray) (i : Nat), Zby l s i r = some (mb r s) := by
  intro r
  induction r with
  | nil => intro i; rw [Zby]; rfl
  | cons x r ih =>
   intro i
   rw [Zby]
   show (if (x.toList == s.toList) = true then some true else Zby l s (i + 1) r) = _
   rw [Zf1, ih]
   by_cases h : x = s
   ·rw [decide_eq_true h, ifT]; unfold mb; rw [decide_eq_true (by simp [h])]
   ·rw [decide_eq_false h, ifF]; unfold mb; congr 1; apply decide_eq_decide.2; rw [List.mem_cons]; exact ⟨.inr, fun hh => hh.resolve_left fun e => h e.symm⟩
 exact key l 0
theorem Zoz (l more ZdI : List ByteArray) (h : l.length + more.length ≤ 1000000000000) : Zck l more ZdI = some (ad (mb ZdI) l more) := by
 have key : ∀ (r out : List ByteArray) (i : Nat), out.length + r.length ≤ 1000000000000 → Zbz more ZdI out i r = some (ad (mb ZdI) out r) := by
  intro r
  induction r with
  | nil => intro out i _; rw [Zbz]; rfl
  | cons x r ih =>
   intro out i hn
   rw [List.length_cons] at hn
   rw [Zbz, ad]
   show (Zc9 out x >>= _) = _
   rw [Zvp, Zo]
   show ((if (!decide (x ∈ out)) = true then _ else some false) >>= _) = _
   cases hd : decide (x ∈ out) with
   | true =>
    rw [Bool.not_true, ifF, Zo, ifF, Bool.true_or, ifT, ih _ _ (by omega)]
   | false =>
    rw [Bool.not_false, ifT, Zvp, Zo, Zo, Bool.false_or]
    cases mb ZdI x with
    | true => rw [Bool.not_true, ifF, ifT, ih _ _ (by omega)]
    | false => rw [Bool.not_false, ifT, ifF, ZdN _ (by simp; omega), ih _ _ (by simp; omega)]
 unfold Zck
 rw [ZdN _ (by simp; omega)]
 exact key more _ 0 (by simpa using h)
theorem Zif (l : List Za) (h : l.length ≤ 1000000000000) : Zbp l = some (l.map (·.fName)) ∧ Zfw l = some (l.map (·.fName)) := by
 have key : ∀ (r : List Za) (out : List ByteArray) (i : Nat), out.length + r.length ≤ 1000000000000 → Za2 l out i r = some (out ++ r.map (·.fName)) ∧ ZdF out l i r = some (out ++ r.map (·.fName)) := by
  intro r
  induction r with
  | nil => intro out i _; rw [Za2, ZdF]; simp
  | cons x r ih =>
   intro out i hn
   rw [List.length_cons] at hn
   rw [Za2, ZdF]
   have := ih (out ++ [x.fName]) (i + 1) (by simp; omega)
   rw [ZdN _ (by simp; omega), ZdN _ (by simp; omega), this.1, this.2]
   simp
 have := key l [] 0 (by simpa using h)
 rw [Zbp, Zfw, this.1, this.2]
 exact ⟨rfl, rfl⟩

theorem Zm9 (l : List ByteArray) (f : Zd) (b : Za) : Z7 l f b = (ZbO (Zd.mk (upM f.fbound l) f.fseen f.fout) b >>= fun r => some (Zd.mk (dnM r.fbound l) r.fseen r.fout)) := by
 have h2 : ∀ (s : List ByteArray) (i : Nat) (r : Zd) (m : CM), ZC l i r m b s = some (Zd.mk (dnM m s) r.fseen r.fout) := by
  intro s
  induction s with
  | nil => intro i r m; rw [ZC]; rfl
  | cons x s ih =>
   intro i r m
   rw [ZC]
   obtain ⟨c, hc⟩ := Zdm m x
   show (ZbW m 0 x >>= _) = _
   rw [hc, Zo]
   exact ih _ _ _
 have h1 : ∀ (s : List ByteArray) (i : Nat) (m : CM), ZX l i f m b s = (ZbO (Zd.mk (upM m s) f.fseen f.fout) b >>= fun r => some (Zd.mk (dnM r.fbound l) r.fseen r.fout)) := by
  intro s
  induction s with
  | nil =>
   intro i m
   rw [ZX]
   show (ZbO (Zd.mk m f.fseen f.fout) b >>= _) = (ZbO (Zd.mk m f.fseen f.fout) b >>= _)
   congr 1
   funext r
   exact h2 _ _ _ _
  | cons x s ih =>
   intro i m
   rw [ZX]
   obtain ⟨c, hc⟩ := Zdm m x
   show (ZbW m 0 x >>= _) = _
   rw [hc, Zo]
   exact ih _ _
 rw [Z7]
 exact h1 l 0 _
theorem ZmQ (l : List ByteArray) (f : Zd) (b : Zf) : Z8 l f b = (ZbM (Zd.mk (upM f.fbound l) f.fseen f.fout) b >>= fun r => some (Zd.mk (dnM r.fbound l) r.fseen r.fout)) := by
 have h2 : ∀ (s : List ByteArray) (i : Nat) (r : Zd) (m : CM), ZB l i r m b s = some (Zd.mk (dnM m s) r.fseen r.fout) := by
  intro s
  induction s with
  | nil => intro i r m; rw [ZB]; rfl
  | cons x s ih =>
   intro i r m
   rw [ZB]
   obtain ⟨c, hc⟩ := Zdm m x
   show (ZbW m 0 x >>= _) = _
   rw [hc, Zo]
   exact ih _ _ _
 have h1 : ∀ (s : List ByteArray) (i : Nat) (m : CM), ZW l i f m b s = (ZbM (Zd.mk (upM m s) f.fseen f.fout) b >>= fun r => some (Zd.mk (dnM r.fbound l) r.fseen r.fout)) := by
  intro s
  induction s with
  | nil =>
   intro i m
   rw [ZW]
   show (ZbM (Zd.mk m f.fseen f.fout) b >>= _) = (ZbM (Zd.mk m f.fseen f.fout) b >>= _)
   congr 1
   funext r
   exact h2 _ _ _ _
  | cons x s ih =>
   intro i m
   rw [ZW]
   obtain ⟨c, hc⟩ := Zdm m x
   show (ZbW m 0 x >>= _) = _
   rw [hc, Zo]
   exact ih _ _
 rw [Z8]
 exact h1 l 0 _
theorem Zn3 (l : List ByteArray) (f : Zd) (b : Zj) : Zau l b f = (Zbn b (Zd.mk (upM f.fbound l) f.fseen f.fout) >>= fun r => some (Zd.mk (dnM r.fbound l) r.fseen r.fout)) := by
 have h2 : ∀ (s : List ByteArray) (i : Nat) (r : Zd) (m : CM), ZM l i b r m s = some (Zd.mk (dnM m s) r.fseen r.fout) := by
  intro s
  induction s with
  | nil => intro i r m; rw [ZM]; rfl
  | cons x s ih =>
   intro i r m
   rw [ZM]
   obtain ⟨c, hc⟩ := Zdm m x
   show (ZbW m 0 x >>= _) = _
   rw [hc, Zo]
   exact ih _ _ _
 have h1 : ∀ (s : List ByteArray) (i : Nat) (m : CM), Z5 l i b f m s = (Zbn b (Zd.mk (upM m s) f.fseen f.fout) >>= fun r => some (Zd.mk (dnM r.fbound l) r.fseen r.fout)) := by
  intro s
  induction s with
  | nil =>
   intro i m
   rw [Z5]
   show (Zbn b (Zd.mk m f.fseen f.fout) >>= _) = (Zbn b (Zd.mk m f.fseen f.fout) >>= _)
   congr 1
   funext r
   exact h2 _ _ _ _
  | cons x s ih =>
   intro i m
   rw [Z5]
   obtain ⟨c, hc⟩ := Zdm m x
   show (ZbW m 0 x >>= _) = _
   rw [hc, Zo]
   exact ih _ _
 rw [Zau]
 exact h1 l 0 _
theorem Zn6 (l : List ByteArray) (f : Zd) (b : Zj) : Za0 l b f = (Zci b (Zd.mk (upM f.fbound l) f.fseen f.fout) >>= fun r => some (Zd.mk (dnM r.fbound l) r.fseen r.fout)) := by
 have h2 : ∀ (s : List ByteArray) (i : Nat) (r : Zd) (m : CM), ZK l i b r m s = some (Zd.mk (dnM m s) r.fseen r.fout) := by
  intro s
  induction s with
  | nil => intro i r m; rw [ZK]; rfl
  | cons x s ih =>
   intro i r m
   rw [ZK]
   obtain ⟨c, hc⟩ := Zdm m x
   show (ZbW m 0 x >>= _) = _
   rw [hc, Zo]
   exact ih _ _ _
 have h1 : ∀ (s : List ByteArray) (i : Nat) (m : CM), Z4 l i b f m s = (Zci b (Zd.mk (upM m s) f.fseen f.fout) >>= fun r => some (Zd.mk (dnM r.fbound l) r.fseen r.fout)) := by
  intro s
  induction s with
  | nil =>
   intro i m
   rw [Z4]
   show (Zci b (Zd.mk m f.fseen f.fout) >>= _) = (Zci b (Zd.mk m f.fseen f.fout) >>= _)
   congr 1
   funext r
   exact h2 _ _ _ _
  | cons x s ih =>
   intro i m
   rw [Z4]
   obtain ⟨c, hc⟩ := Zdm m x
   show (ZbW m 0 x >>= _) = _
   rw [hc, Zo]
   exact ih _ _
 rw [Za0]
 exact h1 l 0 _
theorem Zox (l : List ByteArray) (f : Zd) (b : Zj) : ZaX l b f = (Zcg b (Zd.mk (upM f.fbound l) f.fseen f.fout) >>= fun r => some (Zd.mk (dnM r.fbound l) r.fseen r.fout)) := by
 have h2 : ∀ (s : List ByteArray) (i : Nat) (r : Zd) (m : CM), ZL l i b r m s = some (Zd.mk (dnM m s) r.fseen r.fout) := by
  intro s
  induction s with
  | nil => intro i r m; rw [ZL]; rfl
  | cons x s ih =>
   intro i r m
   rw [ZL]
   obtain ⟨c, hc⟩ := Zdm m x
   show (ZbW m 0 x >>= _) = _
   rw [hc, Zo]
   exact ih _ _ _
 have h1 : ∀ (s : List ByteArray) (i : Nat) (m : CM), Z3 l i b f m s = (Zcg b (Zd.mk (upM m s) f.fseen f.fout) >>= fun r => some (Zd.mk (dnM r.fbound l) r.fseen r.fout)) := by
  intro s
  induction s with
  | nil =>
   intro i m
   rw [Z3]
   show (Zcg b (Zd.mk m f.fseen f.fout) >>= _) = (Zcg b (Zd.mk m f.fseen f.fout) >>= _)
   congr 1
   funext r
   exact h2 _ _ _ _
  | cons x s ih =>
   intro i m
   rw [Z3]
   obtain ⟨c, hc⟩ := Zdm m x
   show (ZbW m 0 x >>= _) = _
   rw [hc, Zo]
   exact ih _ _
 rw [ZaX]
 exact h1 l 0 _
structure FS (f : Zd) (N : Nat) : Prop where
 so : ∀ x, sg f.fseen x = decide (x ∈ f.fout)
 nn : ∀ x, 0 ≤ bg f.fbound x
 up : ∀ x, bg f.fbound x + N ≤ 10000000000
 ln : f.fout.length + N ≤ 10000000000
theorem FS.le {f : Zd} {N M : Nat} (h : FS f N) (hm : M ≤ N) : FS f M := ⟨h.so, h.nn, fun x => by have := h.up x; omega, by have := h.ln; omega⟩
structure FD (f f' : Zd) (P : ByteArray → Bool) (L : List ByteArray) (N : Nat) : Prop where
 fs : FS f' N
 bs : ∀ x, bg f'.fbound x = bg f.fbound x
 out : f'.fout = ad P f.fout L
theorem ZBp (f : Zd) (s : ByteArray) (N : Nat) (h : FS f (N + 1)) : ∃ f', ZdT f s = some f' ∧ FD f f' (pr f.fbound) [s] N := by
 obtain ⟨b1, h1⟩ := Zdm f.fbound s
 obtain ⟨b2, h2⟩ := Zs9 f.fseen s
 have hl := h.ln
 unfold ZdT
 rw [h1, Zo, h2]
 show ∃ f', ((if (bg f.fbound s == 0) = true then some (!sg f.fseen s) else some false) >>= _) = _ ∧ _
 by_cases hb : bg f.fbound s = 0
 ·have hp : pr f.fbound s = false := decide_eq_false (by simp [hb])
  rw [hb, show ((0 : Int) == 0) = true from rfl, ifT, Zo, h.so s]
  by_cases hs : s ∈ f.fout
  ·rw [decide_eq_true hs, Bool.not_true, ifF]
   refine ⟨f, rfl, h.le (by omega), fun x => rfl, ?_⟩
   rw [ad, decide_eq_true hs, Bool.true_or, ifT]; rfl
  ·rw [decide_eq_false hs, Bool.not_false, ifT, ZdN _ (by simp; omega)]
   refine ⟨_, rfl, ⟨fun x => ?_, h.nn, fun x => by have := h.up x; show bg f.fbound x + _ ≤ _; omega, by simp; omega⟩, fun x => rfl, ?_⟩
   ·show sg (Ze0 f.fseen s true) x = decide (x ∈ f.fout ++ [s])
    rw [Zw1]
    by_cases e : x = s
    ·rw [if_pos e, decide_eq_true (by simp [e])]
    ·rw [if_neg e, h.so x]; apply decide_eq_decide.2; simp [e]
   ·show f.fout ++ [s] = _
    rw [ad, decide_eq_false hs, hp, Bool.false_or, ifF]; rfl
 ·have hp : pr f.fbound s = true := decide_eq_true (by simpa using hb)
  rw [show (bg f.fbound s == 0) = false from by simpa using hb, ifF, Zo, ifF]
  refine ⟨f, rfl, h.le (by omega), fun x => rfl, ?_⟩
  rw [ad, hp, Bool.or_true, ifT]; rfl
theorem ZAY (l : List ZJ) : ∀ (s : List ZJ) (f : Zd) (ρ : List ByteArray) (i j N : Nat) (e : Zj) (out0 : List ByteArray), FS f (s.length + N) → f.fout = ad (pr f.fbound) out0 ρ → ρ.length + s.length ≤ 10000000000 →
  ∃ f' ρ', Zbf l i f.fout f.fbound f.fseen s = some f' ∧ Zaq ρ j e s = Zaq ρ' (j + s.length) e [] ∧ FS f' N ∧ (∀ x, bg f'.fbound x = bg f.fbound x) ∧ f'.fout = ad (pr f.fbound) out0 ρ' ∧ ρ'.length ≤ ρ.length + s.length ∧ (ρ.Nodup → ρ'.Nodup) := by
 intro s
 induction s with
 | nil =>
  intro f ρ i j N e out0 h hf hr
  exact ⟨f, ρ, by rw [Zbf], rfl, by simpa using h, fun x => rfl, hf, by simp, id⟩
 | cons a s ih =>
  intro f ρ i j N e out0 h hf hr
  rw [List.length_cons] at h hr
  rw [Zbf, Zaq]
  show ∃ f' ρ', (if (a.fOp == 1) = true then ZdT (Zd.mk f.fbound f.fseen f.fout) a.fName >>= _ else _) = _ ∧ (if (a.fOp == 1) = true then Zck ρ [a.fName] [] >>= _ else _) = _ ∧ _
  cases hop : (a.fOp == 1) with
  | true =>
   obtain ⟨f1, h1, h2⟩ := ZBp f a.fName (s.length + N) (h.le (by omega))
   rw [ifT, ifT, h1, Zo, Zoz _ _ _ (by simp; omega), Zo, Zu5]
   have hp : pr f1.fbound = pr f.fbound := Zj2 h2.bs
   have hl := Zpg (fun _ => false) [a.fName] ρ
   simp only [List.length_cons, List.length_nil] at hl
   obtain ⟨f2, ρ2, k1, k2, k3, k4, k5, k6, k7⟩ := ih f1 (ad (fun _ => false) ρ [a.fName]) (i + 1) (j + 1) N e out0 h2.fs (by
    rw [h2.out, hf, ZsR, hp]; congr 1; funext x; simp) (by omega)
   refine ⟨f2, ρ2, k1, ?_, k3, fun x => (k4 x).trans (h2.bs x), by rw [k5, hp], by rw [List.length_cons]; omega, fun h => k7 (Zmc _ _ _ h)⟩
   rw [k2, List.length_cons, show j + 1 + s.length = j + (s.length + 1) from by omega]
  | false =>
   rw [ifF, ifF]
   obtain ⟨f2, ρ2, k1, k2, k3, k4, k5, k6, k7⟩ := ih f ρ (i + 1) (j + 1) N e out0 (h.le (by omega)) hf (by omega)
   refine ⟨f2, ρ2, k1, ?_, k3, k4, k5, by rw [List.length_cons]; omega, k7⟩
   rw [k2, List.length_cons, show j + 1 + s.length = j + (s.length + 1) from by omega]
theorem Zma {f : Zd} {l : List ByteArray} {N : Nat} (h : FS f (l.length + N)) : FS (Zd.mk (upM f.fbound l) f.fseen f.fout) N ∧ pr (upM f.fbound l) = (fun x => pr f.fbound x || mb l x) := by
 have hb : ∀ x, 0 ≤ bg f.fbound x ∧ bg f.fbound x + l.length ≤ 100000000000 := fun x => ⟨h.nn x, by have := h.up x; omega⟩
 refine ⟨⟨h.so, fun x => ?_, fun x => ?_, by have := h.ln; show f.fout.length + _ ≤ _; omega⟩, ZCn hb⟩
 ·show 0 ≤ bg (upM f.fbound l) x
  rw [ZqQ l _ hb]; have := h.nn x; have := Zpy x l; omega
 ·show bg (upM f.fbound l) x + _ ≤ _
  rw [ZqQ l _ hb]; have := h.up x; have := Ztc x l; omega
theorem Zmh {f r : Zd} {l : List ByteArray} {N M : Nat} (h : FS f (l.length + N)) (hM : M ≤ N) (hr : FS r M) (hb : ∀ x, bg r.fbound x = bg (upM f.fbound l) x) : FS (Zd.mk (dnM r.fbound l) r.fseen r.fout) M ∧ ∀ x, bg (dnM r.fbound l) x = bg f.fbound x := by
 have h1 : ∀ x, 0 ≤ bg f.fbound x ∧ bg f.fbound x + l.length ≤ 100000000000 := fun x => ⟨h.nn x, by have := h.up x; omega⟩
 have h2 : ∀ x, bg r.fbound x = bg f.fbound x + cnt x l := fun x => by rw [hb x, ZqQ l _ h1]
 have h3 : ∀ x, bg (dnM r.fbound l) x = bg f.fbound x := fun x => by
  rw [ZAL l _ (fun z => ?_), h2 x]
  ·omega
  ·rw [h2 z]; have := h1 z; have := Zpy z l; have := Ztc z l; have := h.up z; omega
 refine ⟨⟨hr.so, fun x => ?_, fun x => ?_, hr.ln⟩, h3⟩
 ·show 0 ≤ bg (dnM r.fbound l) x; rw [h3]; exact h.nn x
 ·show bg (dnM r.fbound l) x + _ ≤ _; rw [h3]; have := h.up x; omega

def EX (e : Zj) : Prop := ∀ (f : Zd) (N : Nat), FS f (2 * e.vol + N) → ∃ L f', Zaw e = some L ∧ L.length ≤ e.vol ∧ L.Nodup ∧ Za5 f e = some f' ∧ FD f f' (pr f.fbound) L N
def Zk9 : List Za → Nat
 | [] => 0
 | b :: s => 2 * b.fBody.vol + b.fParams.length + Zk9 s
def Zi5 : List Zf → Nat
 | [] => 0
 | b :: s => 2 * b.fBody.vol + b.fVars.length + Zi5 s
theorem Zsw : ∀ s, Zk9 s + 8 * s.length ≤ 2 * bB s
 | [] => by simp [Zk9]
 | b :: s => by
  have := Zsw s; have := ZfS b; have := Zjo b.fParams
  rw [Zk9, Zlk, List.length_cons]; omega
theorem ZtC : ∀ s, Zi5 s + 8 * s.length ≤ 2 * lB s
 | [] => by simp [Zi5]
 | b :: s => by
  have := ZtC s; have := Ziz b; have := Zjo b.fVars
  rw [Zi5, ZoL, List.length_cons]; omega
theorem ZBN (b : Za) (h : EX b.fBody) (hv : b.fBody.vol ≤ 1000000000) (f : Zd) (N : Nat) (hf : FS f (2 * b.fBody.vol + b.fParams.length + N)) :
  ∃ L f', ZaU b = some (ad (mb b.fParams) [] L) ∧ L.length ≤ b.fBody.vol ∧ Z7 b.fParams f b = some f' ∧ FD f f' (fun x => pr f.fbound x || mb b.fParams x) L N := by
 have h0 : FS f (b.fParams.length + (2 * b.fBody.vol + N)) := hf.le (by omega)
 obtain ⟨h1, h2⟩ := Zma h0
 obtain ⟨L, r, k1, k2, _, k3, k4⟩ := h _ N h1
 obtain ⟨m1, m2⟩ := Zmh (r := r) h0 (by omega) k4.fs k4.bs
 refine ⟨L, _, ?_, k2, ?_, ⟨m1, m2, ?_⟩⟩
 ·rw [ZaU, k1, Zo, Zoz _ _ _ (by simp; omega)]; rfl
 ·rw [Zm9, ZbO, k3]; rfl
 ·show r.fout = _
  rw [k4.out, h2]
theorem ZDz (b : Zf) (h : EX b.fBody) (f : Zd) (N : Nat) (hf : FS f (2 * b.fBody.vol + b.fVars.length + N)) :
  ∃ L f', Zaw b.fBody = some L ∧ L.length ≤ b.fBody.vol ∧ Z8 b.fVars f b = some f' ∧ FD f f' (fun x => pr f.fbound x || mb b.fVars x) L N := by
 have h0 : FS f (b.fVars.length + (2 * b.fBody.vol + N)) := hf.le (by omega)
 obtain ⟨h1, h2⟩ := Zma h0
 obtain ⟨L, r, k1, k2, _, k3, k4⟩ := h _ N h1
 obtain ⟨m1, m2⟩ := Zmh (r := r) h0 (by omega) k4.fs k4.bs
 refine ⟨L, _, k1, k2, ?_, ⟨m1, m2, ?_⟩⟩
 ·rw [ZmQ, ZbM, k3]; rfl
 ·show r.fout = _
  rw [k4.out, h2]
theorem ZvH (e : Zj) (names A : List ByteArray) (B : ByteArray → Bool) (out0 : List ByteArray) : ∀ (s : List Za), (∀ b ∈ s, EX b.fBody ∧ b.fBody.vol ≤ 1000000000) → ∀ (f : Zd) (ρ : List ByteArray) (i j N : Nat), FS f (Zk9 s + N) → f.fout = ad B out0 ρ → pr f.fbound = (fun x => B x || mb A x) → ρ.length + bB s ≤ 10000000000 →
  ∃ f' ρ', ZbS e i f.fout f.fbound f.fseen s = some f' ∧ Zbq ρ names A j e s = ZaT ρ' names 0 e e.fKids ∧ FS f' N ∧ (∀ x, bg f'.fbound x = bg f.fbound x) ∧ f'.fout = ad B out0 ρ' ∧ ρ'.length ≤ ρ.length + bB s ∧ (ρ.Nodup → ρ'.Nodup) := by
 intro s
 induction s with
 | nil =>
  intro hs f ρ i j N h hf hp hr
  exact ⟨f, ρ, by rw [ZbS], by rw [Zbq], h.le (by omega), fun x => rfl, hf, by omega, id⟩
 | cons b s ih =>
  intro hs f ρ i j N h hf hp hr
  rw [Zk9] at h
  rw [Zlk] at hr
  have hbv := ZfS b
  have hb := hs b (by simp)
  obtain ⟨L, f1, h1, h2, h3, h4⟩ := ZBN b hb.1 hb.2 f (Zk9 s + N) (h.le (by omega))
  have hl1 := Zpg (mb b.fParams) L []
  have hl2 := Zpg (mb A) (ad (mb b.fParams) [] L) ρ
  simp only [List.length_nil] at hl1
  obtain ⟨f2, ρ2, k1, k2, k3, k4, k5, k6, k7⟩ := ih (fun c hc => hs c (by simp [hc])) f1 (ad (mb A) ρ (ad (mb b.fParams) [] L)) (i + 1) (j + 1) N h4.fs
   (by rw [h4.out, ZsR, ← hf, ZDa, hp])
   ((Zj2 h4.bs).trans hp) (by omega)
  refine ⟨f2, ρ2, ?_, ?_, k3, fun x => (k4 x).trans (h4.bs x), k5, by rw [Zlk]; omega, fun h => k7 (Zmc _ _ _ h)⟩
  ·rw [ZbS]
   show (Z7 b.fParams f b >>= _) = _
   rw [h3, Zo, k1]
  ·rw [Zbq]
   show (ZaU b >>= _) = _
   rw [h1, Zo, Zoz _ _ _ (by omega), Zo, k2]
theorem ZBJ (e : Zj) (names : List ByteArray) (B : ByteArray → Bool) (out0 : List ByteArray) : ∀ (s : List Zj), (∀ b ∈ s, EX b) → ∀ (f : Zd) (ρ : List ByteArray) (i j N : Nat), FS f (2 * kB s + N) → f.fout = ad B out0 ρ → pr f.fbound = (fun x => B x || mb names x) → ρ.length + kB s ≤ 10000000000 →
  ∃ f' ρ', Zbx e i f.fout f.fbound f.fseen s = some f' ∧ ZaT ρ names j e s = Za9 ρ' 0 e ∧ FS f' N ∧ (∀ x, bg f'.fbound x = bg f.fbound x) ∧ f'.fout = ad B out0 ρ' ∧ ρ'.length ≤ ρ.length + kB s ∧ (ρ.Nodup → ρ'.Nodup) := by
 intro s
 induction s with
 | nil =>
  intro hs f ρ i j N h hf hp hr
  exact ⟨f, ρ, by rw [Zbx], by rw [ZaT], h.le (by omega), fun x => rfl, hf, by omega, id⟩
 | cons b s ih =>
  intro hs f ρ i j N h hf hp hr
  rw [ZoO] at h hr
  obtain ⟨L, f1, h1, h2, _, h3, h4⟩ := hs b (by simp) f (2 * kB s + N) (h.le (by omega))
  have hl2 := Zpg (mb names) L ρ
  obtain ⟨f2, ρ2, k1, k2, k3, k4, k5, k6, k7⟩ := ih (fun c hc => hs c (by simp [hc])) f1 (ad (mb names) ρ L) (i + 1) (j + 1) N h4.fs
   (by rw [h4.out, ZsR, ← hf, hp])
   ((Zj2 h4.bs).trans hp) (by omega)
  refine ⟨f2, ρ2, ?_, ?_, k3, fun x => (k4 x).trans (h4.bs x), k5, by rw [ZoO]; omega, fun h => k7 (Zmc _ _ _ h)⟩
  ·rw [Zbx]
   show (Za5 f b >>= _) = _
   rw [h3, Zo, k1]
  ·rw [ZaT]
   show (Zaw b >>= _) = _
   rw [h1, Zo, Zoz _ _ _ (by omega), Zo, k2]
theorem ZCc (e : Zj) (hv : e.vol ≤ 1000000000) (here : List ByteArray) (hh : here = if (e.fOp == 6) = true then [e.fName] else []) (B : ByteArray → Bool) (out0 : List ByteArray) : ∀ (s pre : List Zf), e.fAlts = pre ++ s → (∀ b ∈ s, EX b.fBody ∧ b.vol ≤ 1000000000) → ∀ (f : Zd) (ρ : List ByteArray) (i N : Nat), FS f (Zi5 s + N) → f.fout = ad B out0 ρ → pr f.fbound = (fun x => B x || mb here x) → ρ.length + lB s ≤ 10000000000 →
  ∃ f' ρ', ZbR e i f.fout f.fbound f.fseen s = some f' ∧ Za9 ρ pre.length e = some ρ' ∧ FS f' N ∧ (∀ x, bg f'.fbound x = bg f.fbound x) ∧ f'.fout = ad B out0 ρ' ∧ ρ'.length ≤ ρ.length + lB s ∧ (ρ.Nodup → ρ'.Nodup) := by
 intro s
 induction s with
 | nil =>
  intro pre hpre hs f ρ i N h hf hp hr
  refine ⟨f, ρ, by rw [ZbR], ?_, h.le (by omega), fun x => rfl, hf, by omega, id⟩
  rw [Za9, hpre, List.append_nil, decide_eq_false (by omega), ifF]
 | cons b s ih =>
  intro pre hpre hs f ρ i N h hf hp hr
  rw [Zi5] at h
  rw [ZoL] at hr
  have hbv := Ziz b
  have hb := hs b (by simp)
  have hsb := Zjo b.fVars
  obtain ⟨L, f1, h1, h2, h3, h4⟩ := ZDz b hb.1 f (Zi5 s + N) (h.le (by omega))
  have hl2 := Zpg (mb (b.fVars ++ here)) L ρ
  have hmb : (fun x => pr f.fbound x || mb b.fVars x) = fun x => B x || mb (b.fVars ++ here) x := by
   rw [hp]; funext x
   show ((B x || mb here x) || mb b.fVars x) = _
   have : mb (b.fVars ++ here) x = (mb b.fVars x || mb here x) := by unfold mb; rw [Bool.eq_iff_iff]; simp
   rw [this]
   cases B x <;> cases mb here x <;> cases mb b.fVars x <;> rfl
  obtain ⟨f2, ρ2, k1, k2, k3, k4, k5, k6, k7⟩ := ih (pre ++ [b]) (by rw [hpre]; simp) (fun c hc => hs c (by simp [hc])) f1 (ad (mb (b.fVars ++ here)) ρ L) (i + 1) N h4.fs
   (by rw [h4.out, ZsR, ← hf, hmb])
   ((Zj2 h4.bs).trans hp) (by omega)
  refine ⟨f2, ρ2, ?_, ?_, k3, fun x => (k4 x).trans (h4.bs x), k5, by rw [ZoL]; omega, fun h => k7 (Zmc _ _ _ h)⟩
  ·rw [ZbR]
   show (Z8 b.fVars f b >>= _) = _
   rw [h3, Zo, k1]
  ·have hg : e.fAlts[pre.length]? = some b := by rw [hpre]; simp
   have hk7 : Zc0 ρ pre.length (b.fVars ++ here) e = some ρ2 := by
    rw [Zc0, hg, Zo, h1, Zo, Zoz _ _ _ (by omega), Zo]
    rw [List.length_append] at k2
    exact k2
   rw [Za9, decide_eq_true (by rw [hpre, List.length_append, List.length_cons]; omega), ifT, hg, Zo, ZdN _ (by simp; omega)]
   cases hop : (e.fOp == 6) with
   | true =>
    rw [hop, ifT] at hh
    rw [ifT, ZdN _ (by simp; omega), List.nil_append, ← hh, hk7]
   | false =>
    rw [hop, ifF] at hh
    rw [ifF, List.nil_append]
    rw [hh, List.append_nil] at hk7
    exact hk7
theorem Zxw (e : Zj) : e.vol ≤ 1000000000 → EX e := by
 refine ZA4 (M := fun e => e.vol ≤ 1000000000 → EX e) (fun e ih hv => ?_) e
 intro f N h
 have hve := Zs4 e
 have hbc := Zsw e.fBinds
 have hac := ZtC e.fAlts
 have hal := ZuW e.fArgs
 have hbl := Zpv e.fBinds
 have hA : ∃ f1 ρ0, Za5 f e = Zc3 e f1.fout f1.fbound f1.fseen ∧ Zaw e = ZbC ρ0 e ∧ FS f1 (2 * e.vol - 1 + N) ∧ (∀ x, bg f1.fbound x = bg f.fbound x) ∧ f1.fout = ad (pr f.fbound) f.fout ρ0 ∧ ρ0.length ≤ 1 ∧ ρ0.Nodup := by
  rw [Za5, Zaw]
  cases hop : (e.fOp == 2) with
  | true =>
   obtain ⟨f1, h1, h2⟩ := ZBp f e.fName (2 * e.vol - 1 + N) (h.le (by omega))
   refine ⟨f1, [e.fName], by rw [ifT, h1]; rfl, by rw [ifT, ZdN _ (by simp)]; rfl, h2.fs, h2.bs, h2.out, by simp, by simp⟩
  | false =>
   exact ⟨f, [], by rw [ifF], by rw [ifF], h.le (by omega), fun x => rfl, rfl, by simp, by simp⟩
 obtain ⟨f1, ρ1, a1, a2, a3, a4, a5, a6, a7⟩ := hA
 have p1 : pr f1.fbound = pr f.fbound := Zj2 a4
 obtain ⟨f2, ρ2, b1, b2, b3, b4, b5, b6, b7⟩ := ZAY e.fArgs e.fArgs f1 ρ1 0 0 (2 * e.vol - 1 + N - e.fArgs.length) e f.fout (a3.le (by omega)) (by rw [a5, p1]) (by omega)
 have p2 : pr f2.fbound = pr f.fbound := (Zj2 b4).trans p1
 have hnm := Zif e.fBinds (by omega)
 have hnl : (e.fBinds.map (·.fName)).length = e.fBinds.length := List.length_map _
 generalize hnames : e.fBinds.map (·.fName) = names at hnm hnl
 have hR : Zaw e = ZbD ρ2 names (if e.fRec = true then names else []) e := by
  rw [a2, ZbC, b2, Zaq]
  show (Zbp e.fBinds >>= _) = _
  rw [hnm.1, Zo]
  cases e.fRec with
  | true => rw [ifT, ifT]
  | false => rw [ifF, ifF]
 have ihb : ∀ b ∈ e.fBinds, EX b.fBody ∧ b.fBody.vol ≤ 1000000000 := fun b hb => by
  have h1 : b.vol ≤ bB e.fBinds := Zeh (f := Za.cells) hb
  have h2 := ZfS b
  exact ⟨ih _ (by omega) (by omega), by omega⟩
 have ihk : ∀ b ∈ e.fKids, EX b := fun b hb => by
  have h1 : b.vol ≤ kB e.fKids := Zeh (f := Zj.cells) hb
  exact ih _ (by omega) (by omega)
 have iha : ∀ b ∈ e.fAlts, EX b.fBody ∧ b.vol ≤ 1000000000 := fun b hb => by
  have h1 : b.vol ≤ lB e.fAlts := Zeh (f := Zf.cells) hb
  have h2 := Ziz b
  exact ⟨ih _ (by omega) (by omega), by omega⟩
 have hB : ∃ f3 ρ3, Za5 f e = Zch names e f3.fout f3.fbound f3.fseen ∧ Zaw e = ZaT ρ3 names 0 e e.fKids ∧ FS f3 (e.fBinds.length + 1 + 2 * kB e.fKids + Zi5 e.fAlts + N) ∧ (∀ x, bg f3.fbound x = bg f.fbound x) ∧ f3.fout = ad (pr f.fbound) f.fout ρ3 ∧ ρ3.length ≤ 1 + e.fArgs.length + bB e.fBinds ∧ ρ3.Nodup := by
  have hk1 : Za5 f e = if e.fRec = true then (Zau names e f2 >>= fun r13 => Zch names e r13.fout r13.fbound r13.fseen) else (Zbn e f2 >>= fun r14 => Zch names e r14.fout r14.fbound r14.fseen) := by
   rw [a1, Zc3, Zes, b1, Zo, hnm.2, Zo]
  rw [hk1, hR, ZbD]
  cases hrec : e.fRec with
  | true =>
   have h0 : FS f2 (names.length + (Zk9 e.fBinds + (e.fBinds.length + 1 + 2 * kB e.fKids + Zi5 e.fAlts + N))) := b3.le (by omega)
   obtain ⟨s1, s2⟩ := Zma h0
   obtain ⟨f3, ρ3, c1, c2, c3, c4, c5, c6, c7⟩ := ZvH e names names (pr f.fbound) f.fout e.fBinds ihb _ ρ2 0 0 _ s1 (by show f2.fout = _; rw [b5, p1]) (by rw [← p2]; exact s2) (by omega)
   obtain ⟨m1, m2⟩ := Zmh (r := f3) h0 (by omega) c3 c4
   refine ⟨Zd.mk (dnM f3.fbound names) f3.fseen f3.fout, ρ3, ?_, by rw [ifT]; exact c2, m1, fun x => by rw [m2 x, b4 x, a4 x], c5, by omega, c7 (b7 a7)⟩
   rw [ifT, Zn3, Zbn, c1]; rfl
  | false =>
   obtain ⟨f3, ρ3, c1, c2, c3, c4, c5, c6, c7⟩ := ZvH e names [] (pr f.fbound) f.fout e.fBinds ihb f2 ρ2 0 0 (e.fBinds.length + 1 + 2 * kB e.fKids + Zi5 e.fAlts + N) (b3.le (by omega)) (by rw [b5, p1]) (by rw [p2, Zu5]; funext x; simp) (by omega)
   refine ⟨f3, ρ3, ?_, by rw [ifF]; exact c2, c3, fun x => by rw [c4 x, b4 x, a4 x], c5, by omega, c7 (b7 a7)⟩
   rw [ifF, Zbn, c1]; rfl
 obtain ⟨f3, ρ3, c1, c2, c3, c4, c5, c6, c7⟩ := hB
 have p3 : pr f3.fbound = pr f.fbound := Zj2 c4
 have h0 : FS f3 (names.length + (2 * kB e.fKids + (1 + Zi5 e.fAlts + N))) := c3.le (by omega)
 obtain ⟨s1, s2⟩ := Zma h0
 obtain ⟨f4, ρ4, d1, d2, d3, d4, d5, d6, d7⟩ := ZBJ e names (pr f.fbound) f.fout e.fKids ihk _ ρ3 0 0 _ s1 c5 (by rw [← p3]; exact s2) (by omega)
 obtain ⟨m1, m2⟩ := Zmh (r := f4) h0 (by omega) d3 d4
 generalize hf5 : Zd.mk (dnM f4.fbound names) f4.fseen f4.fout = f5 at m1
 have b5' : ∀ x, bg f5.fbound x = bg f.fbound x := fun x => by rw [← hf5]; show bg (dnM f4.fbound names) x = _; rw [m2 x, c4 x]
 have o5 : f5.fout = ad (pr f.fbound) f.fout ρ4 := by rw [← hf5]; exact d5
 have p5 : pr f5.fbound = pr f.fbound := Zj2 b5'
 generalize hh : (if (e.fOp == 6) = true then [e.fName] else []) = here
 have hhl : here.length ≤ 1 := by rw [← hh]; split <;> simp
 have h0' : FS f5 (here.length + (Zi5 e.fAlts + N)) := m1.le (by omega)
 obtain ⟨t1, t2⟩ := Zma h0'
 obtain ⟨f6, ρ6, g1, g2, g3, g4, g5, g6, g7⟩ := ZCc e hv here hh.symm (pr f.fbound) f.fout e.fAlts [] rfl iha _ ρ4 0 N t1 o5 (by rw [← p5]; exact t2) (by omega)
 obtain ⟨n1, n2⟩ := Zmh (r := f6) h0' (by omega) g3 g4
 refine ⟨ρ6, _, by rw [c2, d2]; exact g2, by omega, g7 (d7 c7), ?_, ⟨n1, fun x => by show bg (dnM f6.fbound here) x = _; rw [n2 x, b5' x], g5⟩⟩
 have hk3 : Zc4 here e f5 = some (Zd.mk (dnM f6.fbound here) f6.fseen f6.fout) := by
  rw [Zc4, Zox, Zcg, g1]; rfl
 rw [c1, Zch, Zn6, Zci]
 show ((Zbx e 0 f3.fout (upM f3.fbound names) f3.fseen e.fKids >>= _) >>= _) = _
 rw [d1, Zo, Zo, hf5]
 rw [← hk3, ← hh]
 cases (e.fOp == 6) with
 | true => rw [ifT, ifT]
 | false => rw [ifF, ifF]
theorem ZoQ (e : Zj) (hv : e.vol ≤ 1000000000) : ∃ L, Zaw e = some L ∧ ZfE e = some L ∧ L.length ≤ e.vol ∧ L.Nodup := by
 obtain ⟨L, f', h1, h2, h6, h3, h4⟩ := Zxw e hv (Zd.mk [] [] []) 0 ⟨fun x => rfl, fun x => Int.le_refl _, fun x => by show (0 : Int) + _ ≤ _; omega, by show 0 + _ ≤ _; omega⟩
 have h5 := h4.out
 rw [show pr (Zd.mk [] [] []).fbound = fun _ => false from rfl] at h5
 refine ⟨L, h1, ?_, h2, h6⟩
 rw [ZfE, h3, Zo, h5]
 show some (ad (fun _ => false) [] L) = some L
 rw [Zye L [] (by simpa using h6)]; rfl

theorem ZpM (l : List ByteArray) (f : Zd) (b : Za) : Zbm l f b = (Zda (Zd.mk (upM f.fbound l) f.fseen f.fout) b >>= fun r => some (Zd.mk (dnM r.fbound l) r.fseen r.fout)) := by
 have h2 : ∀ (s : List ByteArray) (i : Nat) (r : Zd) (m : CM), ZR l i r m b s = some (Zd.mk (dnM m s) r.fseen r.fout) := by
  intro s
  induction s with
  | nil => intro i r m; rw [ZR]; rfl
  | cons x s ih =>
   intro i r m
   rw [ZR]
   obtain ⟨c, hc⟩ := Zdm m x
   show (ZbW m 0 x >>= _) = _
   rw [hc, Zo]
   exact ih _ _ _
 have h1 : ∀ (s : List ByteArray) (i : Nat) (m : CM), ZS l i f m b s = (Zda (Zd.mk (upM m s) f.fseen f.fout) b >>= fun r => some (Zd.mk (dnM r.fbound l) r.fseen r.fout)) := by
  intro s
  induction s with
  | nil =>
   intro i m
   rw [ZS]
   show (Zda (Zd.mk m f.fseen f.fout) b >>= _) = (Zda (Zd.mk m f.fseen f.fout) b >>= _)
   congr 1
   funext r
   exact h2 _ _ _ _
  | cons x s ih =>
   intro i m
   rw [ZS]
   obtain ⟨c, hc⟩ := Zdm m x
   show (ZbW m 0 x >>= _) = _
   rw [hc, Zo]
   exact ih _ _
 rw [Zbm]
 exact h1 l 0 _
theorem Zns (l : List ByteArray) (f : Zb) (b : Zj) : Zan l b f = (Zbc b (Zb.mk f.fcons (upM f.flocal l) f.fbad) >>= fun r => some (Zb.mk r.fcons (dnM r.flocal l) r.fbad)) := by
 have h2 : ∀ (s : List ByteArray) (i : Nat) (r : Zb) (m : CM), ZE l i b r m s = some (Zb.mk r.fcons (dnM m s) r.fbad) := by
  intro s
  induction s with
  | nil => intro i r m; rw [ZE]; rfl
  | cons x s ih =>
   intro i r m
   rw [ZE]
   obtain ⟨c, hc⟩ := Zdm m x
   show (ZbW m 0 x >>= _) = _
   rw [hc, Zo]
   exact ih _ _ _
 have h1 : ∀ (s : List ByteArray) (i : Nat) (m : CM), Z0 l i b f m s = (Zbc b (Zb.mk f.fcons (upM m s) f.fbad) >>= fun r => some (Zb.mk r.fcons (dnM r.flocal l) r.fbad)) := by
  intro s
  induction s with
  | nil =>
   intro i m
   rw [Z0]
   show (Zbc b (Zb.mk f.fcons m f.fbad) >>= _) = (Zbc b (Zb.mk f.fcons m f.fbad) >>= _)
   congr 1
   funext r
   exact h2 _ _ _ _
  | cons x s ih =>
   intro i m
   rw [Z0]
   obtain ⟨c, hc⟩ := Zdm m x
   show (ZbW m 0 x >>= _) = _
   rw [hc, Zo]
   exact ih _ _
 rw [Zan]
 exact h1 l 0 _
theorem Znv (l : List ByteArray) (f : Zb) (b : Zj) : Zap l f b = (Zb6 (Zb.mk f.fcons (upM f.flocal l) f.fbad) b >>= fun r => some (Zb.mk r.fcons (dnM r.flocal l) r.fbad)) := by
 have h2 : ∀ (s : List ByteArray) (i : Nat) (r : Zb) (m : CM), ZD l i r m b s = some (Zb.mk r.fcons (dnM m s) r.fbad) := by
  intro s
  induction s with
  | nil => intro i r m; rw [ZD]; rfl
  | cons x s ih =>
   intro i r m
   rw [ZD]
   obtain ⟨c, hc⟩ := Zdm m x
   show (ZbW m 0 x >>= _) = _
   rw [hc, Zo]
   exact ih _ _ _
 have h1 : ∀ (s : List ByteArray) (i : Nat) (m : CM), ZY l i f m b s = (Zb6 (Zb.mk f.fcons (upM m s) f.fbad) b >>= fun r => some (Zb.mk r.fcons (dnM r.flocal l) r.fbad)) := by
  intro s
  induction s with
  | nil =>
   intro i m
   rw [ZY]
   show (Zb6 (Zb.mk f.fcons m f.fbad) b >>= _) = (Zb6 (Zb.mk f.fcons m f.fbad) b >>= _)
   congr 1
   funext r
   exact h2 _ _ _ _
  | cons x s ih =>
   intro i m
   rw [ZY]
   obtain ⟨c, hc⟩ := Zdm m x
   show (ZbW m 0 x >>= _) = _
   rw [hc, Zo]
   exact ih _ _
 rw [Zap]
 exact h1 l 0 _
theorem ZnG (l : List ByteArray) (f : Zb) (b : Zj) : Zao l b f = (Zb0 b (Zb.mk f.fcons (upM f.flocal l) f.fbad) >>= fun r => some (Zb.mk r.fcons (dnM r.flocal l) r.fbad)) := by
 have h2 : ∀ (s : List ByteArray) (i : Nat) (r : Zb) (m : CM), ZF l i b r m s = some (Zb.mk r.fcons (dnM m s) r.fbad) := by
  intro s
  induction s with
  | nil => intro i r m; rw [ZF]; rfl
  | cons x s ih =>
   intro i r m
   rw [ZF]
   obtain ⟨c, hc⟩ := Zdm m x
   show (ZbW m 0 x >>= _) = _
   rw [hc, Zo]
   exact ih _ _ _
 have h1 : ∀ (s : List ByteArray) (i : Nat) (m : CM), Z1 l i b f m s = (Zb0 b (Zb.mk f.fcons (upM m s) f.fbad) >>= fun r => some (Zb.mk r.fcons (dnM r.flocal l) r.fbad)) := by
  intro s
  induction s with
  | nil =>
   intro i m
   rw [Z1]
   show (Zb0 b (Zb.mk f.fcons m f.fbad) >>= _) = (Zb0 b (Zb.mk f.fcons m f.fbad) >>= _)
   congr 1
   funext r
   exact h2 _ _ _ _
  | cons x s ih =>
   intro i m
   rw [Z1]
   obtain ⟨c, hc⟩ := Zdm m x
   show (ZbW m 0 x >>= _) = _
   rw [hc, Zo]
   exact ih _ _
 rw [Zao]
 exact h1 l 0 _
theorem ZlQ (l : List ByteArray) (f : Zb) (b : Zf) : Zai l f b = (Zbw (Zb.mk f.fcons (upM f.flocal l) f.fbad) b >>= fun r => some (Zb.mk r.fcons (dnM r.flocal l) r.fbad)) := by
 have h2 : ∀ (s : List ByteArray) (i : Nat) (r : Zb) (m : CM), Zz l i r m b s = some (Zb.mk r.fcons (dnM m s) r.fbad) := by
  intro s
  induction s with
  | nil => intro i r m; rw [Zz]; rfl
  | cons x s ih =>
   intro i r m
   rw [Zz]
   obtain ⟨c, hc⟩ := Zdm m x
   show (ZbW m 0 x >>= _) = _
   rw [hc, Zo]
   exact ih _ _ _
 have h1 : ∀ (s : List ByteArray) (i : Nat) (m : CM), ZV l i f m b s = (Zbw (Zb.mk f.fcons (upM m s) f.fbad) b >>= fun r => some (Zb.mk r.fcons (dnM r.flocal l) r.fbad)) := by
  intro s
  induction s with
  | nil =>
   intro i m
   rw [ZV]
   show (Zbw (Zb.mk f.fcons m f.fbad) b >>= _) = (Zbw (Zb.mk f.fcons m f.fbad) b >>= _)
   congr 1
   funext r
   exact h2 _ _ _ _
  | cons x s ih =>
   intro i m
   rw [ZV]
   obtain ⟨c, hc⟩ := Zdm m x
   show (ZbW m 0 x >>= _) = _
   rw [hc, Zo]
   exact ih _ _
 rw [Zai]
 exact h1 l 0 _
theorem Zi2 (l : List ByteArray) (f : Zb) (b : Za) : Zae l f b = (ZbH (Zb.mk f.fcons (upM f.flocal l) f.fbad) b >>= fun r => some (Zb.mk r.fcons (dnM r.flocal l) r.fbad)) := by
 have h2 : ∀ (s : List ByteArray) (i : Nat) (r : Zb) (m : CM), ZG l i r m b s = some (Zb.mk r.fcons (dnM m s) r.fbad) := by
  intro s
  induction s with
  | nil => intro i r m; rw [ZG]; rfl
  | cons x s ih =>
   intro i r m
   rw [ZG]
   obtain ⟨c, hc⟩ := Zdm m x
   show (ZbW m 0 x >>= _) = _
   rw [hc, Zo]
   exact ih _ _ _
 have h1 : ∀ (s : List ByteArray) (i : Nat) (m : CM), ZZ l i f m b s = (ZbH (Zb.mk f.fcons (upM m s) f.fbad) b >>= fun r => some (Zb.mk r.fcons (dnM r.flocal l) r.fbad)) := by
  intro s
  induction s with
  | nil =>
   intro i m
   rw [ZZ]
   show (ZbH (Zb.mk f.fcons m f.fbad) b >>= _) = (ZbH (Zb.mk f.fcons m f.fbad) b >>= _)
   congr 1
   funext r
   exact h2 _ _ _ _
  | cons x s ih =>
   intro i m
   rw [ZZ]
   obtain ⟨c, hc⟩ := Zdm m x
   show (ZbW m 0 x >>= _) = _
   rw [hc, Zo]
   exact ih _ _
 rw [Zae]
 exact h1 l 0 _
def chB (c : UInt8) : Bool := decide (33 ≤ c.toNat) && decide (c.toNat ≤ 126)
def Zdx (s : ByteArray) : Bool := !(((decide (s = ByteArray.mk #[]) || decide (s = ByteArray.mk #[40])) || decide (s = ByteArray.mk #[41])) || decide (158 < s.size)) && s.data.toList.all chB
theorem Zzb (s : ByteArray) (k : Nat) : btI s ((k : Nat) : Int) = s.data.toList[k]? := by
 unfold btI
 rw [if_pos (Int.natCast_nonneg k), Int.toNat_natCast]
 rcases Nat.lt_or_ge k s.size with h | h
 ·rw [getElem?_pos s k h, List.getElem?_eq_getElem (by simpa using h)]; rfl
 ·rw [getElem?_neg s k (by omega), List.getElem?_eq_none (by simpa using h)]
theorem szL (s : ByteArray) : s.data.toList.length = s.size := by simp
theorem ZDj (s : ByteArray) (hs : s.size ≤ 158) : ∀ (d k : Nat), s.size - k = d → Zd7 s k = some ((s.data.toList.drop k).all chB) ∧ ZbE s k = some ((s.data.toList.drop k).all chB) := by
 intro d
 induction d with
 | zero =>
  intro k hk
  rw [Zd7, ZbE, decide_eq_false (by omega), ifF, List.drop_eq_nil_of_le (by rw [szL]; omega)]
  exact ⟨rfl, rfl⟩
 | succ d ih =>
  intro k hk
  have hlt : k < s.data.toList.length := by rw [szL]; omega
  have hd : s.data.toList.drop k = s.data.toList[k] :: s.data.toList.drop (k + 1) := List.drop_eq_getElem_cons hlt
  have hg : s.data.toList[k]? = some s.data.toList[k] := List.getElem?_eq_getElem hlt
  rw [Zd7, ZbE, decide_eq_true (by omega), ifT, ifT, Zzb, hd, hg]
  generalize s.data.toList[k] = y
  obtain ⟨i1, i2⟩ := ih (k + 1) (by omega)
  rw [List.all_cons]
  simp only [Zo]
  have hc : (if decide (((y.toNat : Nat) : Int) < 33) = true then some true else some (decide (((y.toNat : Nat) : Int) > 126))) = some (!chB y) := by
   unfold chB
   by_cases h1 : y.toNat < 33
   ·rw [decide_eq_true (show ((y.toNat : Nat) : Int) < 33 by omega), ifT, decide_eq_false (show ¬ 33 ≤ y.toNat by omega)]; rfl
   ·rw [decide_eq_false (show ¬ ((y.toNat : Nat) : Int) < 33 by omega), ifF, decide_eq_true (show 33 ≤ y.toNat by omega)]
    congr 1
    by_cases h2 : y.toNat ≤ 126
    ·rw [decide_eq_true h2, decide_eq_false (by omega)]; rfl
    ·rw [decide_eq_false h2, decide_eq_true (by omega)]; rfl
  rw [hc]
  simp only [Zo]
  cases chB y with
  | true => rw [Bool.not_true, ifF, ifF, ZdN _ (by omega), ZdN _ (by omega), i1, i2]; exact ⟨rfl, rfl⟩
  | false => rw [Bool.not_false, ifT, ifT]; exact ⟨rfl, rfl⟩
theorem Zd8 (s : ByteArray) : Zei s = some (Zdx s) ∧ ZbU s = some (Zdx s) := by
 rw [Zei, ZbU]
 simp only [Zf1]
 unfold Zdx
 have hsz : decide (((s.size : Nat) : Int) > 158) = decide (158 < s.size) := decide_eq_decide.2 (by omega)
 rw [hsz]
 by_cases h : 158 < s.size
 ·rw [decide_eq_true h]
  simp
 ·obtain ⟨h1, h2⟩ := ZDj s (by omega) _ 0 rfl
  rw [decide_eq_false h, h1, h2, Bool.or_false, Bool.or_false, List.drop_zero]
  cases decide (s = ByteArray.mk #[]) <;> cases decide (s = ByteArray.mk #[40]) <;> cases decide (s = ByteArray.mk #[41]) <;> simp
def Zen : List ByteArray → List ByteArray → Bool
 | _, [] => true
 | seen, x :: l => (Zdx x && !decide (x ∈ seen)) && Zen (seen ++ [x]) l
theorem Zhw (l : List ByteArray) : ZdB l = some (Zen [] l) := by
 have key : ∀ (s seen : List ByteArray) (m : List (ByteArray × Bool)) (i : Nat), (∀ x, sg m x = decide (x ∈ seen)) → Zcd l i m s = some (Zen seen s) := by
  intro s
  induction s with
  | nil => intro seen m i _; rw [Zcd]; rfl
  | cons x s ih =>
   intro seen m i hm
   rw [Zcd, Zen]
   show (Zei x >>= _) = _
   rw [(Zd8 x).1, Zo]
   obtain ⟨b, hb⟩ := Zs9 m x
   rw [hb, hm x]
   have hn := ih (seen ++ [x]) (Ze0 m x true) (i + 1) (fun y => by
    rw [Zw1, hm y]
    by_cases e : y = x
    ·rw [if_pos e, decide_eq_true (by simp [e])]
    ·rw [if_neg e]; apply decide_eq_decide.2; simp [e])
   rw [hn]
   cases Zdx x <;> cases decide (x ∈ seen) <;> rfl
 exact key l [] [] 0 (fun x => rfl)
theorem ZjL (l : List ByteArray) : ZbI l = some (Zen [] l) := by
 have key : ∀ (s pre : List ByteArray), l = pre ++ s → Zas l pre.length s = some (Zen pre s) := by
  intro s
  induction s with
  | nil => intro pre _; rw [Zas]; rfl
  | cons x s ih =>
   intro pre hp
   rw [Zas, Zen]
   show (ZbU x >>= _) = _
   have hsl : slL l ((0 : Nat) : Int) ((pre.length : Nat) : Int) = some pre := by
    unfold slL
    rw [if_pos ⟨by omega, by omega, by rw [hp, List.length_append]; omega⟩, hp]
    simp
   have hn := ih (pre ++ [x]) (by rw [hp]; simp)
   rw [List.length_append] at hn
   rw [(Zd8 x).2, Zo, hsl, Zo, Zvp, Zo]
   have hn' : Zas l (pre.length + 1) s = some (Zen (pre ++ [x]) s) := hn
   rw [hn']
   unfold mb
   cases Zdx x <;> cases decide (x ∈ pre) <;> rfl
 exact key l [] rfl
theorem Zic (c : Zb) (b : Bool) : Zy c b = some (Zb.mk c.fcons c.flocal (c.fbad || !b)) := by
 unfold Zy
 cases b with
 | true => rw [Bool.not_true, ifF, Bool.or_false]
 | false => rw [Bool.not_false, ifT, Bool.or_true]
theorem Zre (b : Za) (hv : b.vol ≤ 1000000000) : ∃ L, Zaw b.fBody = some L ∧ L.length ≤ b.fBody.vol ∧ L.Nodup ∧ ZaU b = some (ad (mb b.fParams) [] L) ∧ ZeW b = some (ad (mb b.fParams) [] L) := by
 have hb := ZfS b
 have hp := Zjo b.fParams
 obtain ⟨L, h1, h2, h3, h6⟩ := ZoQ b.fBody (by omega)
 have h0 : FS (Zd.mk [] [] []) (b.fParams.length + (2 * b.fBody.vol + 0)) := ⟨fun x => rfl, fun x => Int.le_refl _, fun x => by show (0 : Int) + _ ≤ _; omega, by show 0 + _ ≤ _; omega⟩
 obtain ⟨s1, s2⟩ := Zma h0
 obtain ⟨L', r, k1, k2, k5, k3, k4⟩ := Zxw b.fBody (by omega) _ 0 s1
 rw [h1] at k1
 injection k1 with k1
 subst k1
 refine ⟨L, h1, h3, h6, ?_, ?_⟩
 ·rw [ZaU, h1, Zo, Zoz _ _ _ (by simp; omega)]; rfl
 ·rw [ZeW, ZpM, Zda, k3]
  show some r.fout = _
  rw [k4.out, s2]
  show some (ad (fun x => pr [] x || mb b.fParams x) [] L) = _
  rw [Zzk]
  congr 2
theorem Zqh (P : ByteArray → Bool) : ∀ (l out : List ByteArray), (out ++ l).Nodup → ad P out l = out ++ l.filter (fun x => !P x)
 | [], out, h => by simp [ad]
 | x :: l, out, h => by
  have hx : x ∉ out := fun hx => (List.nodup_append.1 h).2.2 x hx x (by simp) rfl
  rw [ad, decide_eq_false hx, Bool.false_or, List.filter_cons]
  cases hp : P x with
  | true =>
   rw [ifT, Bool.not_true, ifF]
   exact Zqh P l out (by
    rw [List.nodup_append] at h ⊢
    exact ⟨h.1, (List.nodup_cons.1 h.2.1).2, fun a ha b hb => h.2.2 a ha b (by simp [hb])⟩)
  | false =>
   rw [ifF, Bool.not_false, ifT, Zqh P l (out ++ [x]) (by simpa using h)]
   simp

def ZjF : ByteArray := ByteArray.mk #[]
def atB (a : ZJ) : Bool := if a.fOp = 1 then Zdx a.fName && decide (a.fN = 0) else if a.fOp = 2 then decide (a.fName = ZjF) else if a.fOp = 3 then (decide (a.fName = ZjF) && decide (a.fN ≥ 0)) && decide (a.fN ≤ 255) else false
theorem ieq (a b : Int) : (a == b) = decide (a = b) := by rw [Bool.eq_iff_iff]; simp
theorem ine (a b : Int) : (a != b) = !decide (a = b) := by rw [Bool.eq_iff_iff]; simp
theorem Zt6 (a : ZJ) : Zis a = some (atB a) ∧ ZdV a = some (atB a) := by
 rw [Zis, ZdV]
 unfold atB ZjF
 simp only [Zf1, ieq, (Zd8 a.fName).1, (Zd8 a.fName).2]
 by_cases h1 : a.fOp = 1
 ·rw [if_pos h1, decide_eq_true h1]; exact ⟨rfl, rfl⟩
 ·rw [if_neg h1, decide_eq_false h1, ifF]
  by_cases h2 : a.fOp = 2
  ·rw [if_pos h2, decide_eq_true h2]; exact ⟨rfl, rfl⟩
  ·rw [if_neg h2, decide_eq_false h2, ifF]
   by_cases h3 : a.fOp = 3
   ·rw [if_pos h3, decide_eq_true h3]; exact ⟨rfl, rfl⟩
   ·rw [if_neg h3, decide_eq_false h3, ifF]; exact ⟨rfl, rfl⟩
def shB (e : Zj) : Bool :=
 if e.fOp = 1 then decide (e.fName = ZjF ∧ e.fRec = false ∧ e.fArgs.length = 1 ∧ e.fBinds.length = 0 ∧ e.fKids.length = 0 ∧ e.fAlts.length = 0)
 else if e.fOp = 2 then decide (Zdx e.fName = true ∧ e.fRec = false ∧ 1 ≤ e.fArgs.length ∧ e.fBinds.length = 0 ∧ e.fKids.length = 0 ∧ e.fAlts.length = 0)
 else if e.fOp = 3 ∨ e.fOp = 4 then decide (Zdx e.fName = true ∧ e.fRec = false ∧ e.fBinds.length = 0 ∧ e.fKids.length = 0 ∧ e.fAlts.length = 0)
 else if e.fOp = 5 then decide (e.fName = ZjF ∧ e.fArgs.length = 0 ∧ 1 ≤ e.fBinds.length ∧ e.fKids.length = 1 ∧ e.fAlts.length = 0 ∧ (e.fRec = true ∨ e.fBinds.length = 1))
 else if e.fOp = 6 then decide (Zdx e.fName = true ∧ e.fRec = false ∧ e.fArgs.length = 0 ∧ e.fBinds.length = 0 ∧ e.fKids.length = 1 ∧ 1 ≤ e.fAlts.length)
 else false
theorem ZEb {s : ByteArray} (h : Zdx s = true) : s ≠ ZjF := by
 rintro rfl
 revert h
 decide +kernel
theorem z0 (n : Nat) : (((n : Nat) : Int) == 0) = decide (n = 0) := by rw [Bool.eq_iff_iff]; simp
theorem z1 (n : Nat) : (((n : Nat) : Int) == 1) = decide (n = 1) := by rw [Bool.eq_iff_iff]; simp; omega
theorem zg (n : Nat) : (decide (((n : Nat) : Int) > 0)) = decide (1 ≤ n) := decide_eq_decide.2 (by omega)
theorem zm (n : Nat) : (((n : Nat) : Int) == (if ((n : Nat) : Int) > 1 then ((n : Nat) : Int) else 1)) = decide (1 ≤ n) := by
 rw [Bool.eq_iff_iff]
 by_cases h : ((n : Nat) : Int) > 1
 ·rw [if_pos h]; simp; omega
 ·rw [if_neg h]; simp; omega
theorem zs (n : Nat) : (((n : Nat) : Int) == ((n : Nat) : Int)) = true := by simp
theorem Zza (e : Zj) : Zgr e = some (shB e) := by
 rw [Zgr, (Zd8 e.fName).1, Zo]
 simp only [Zf1, z0, z1, zm, Bool.and_true]
 simp only [ieq, ine]
 rw [show ByteArray.mk #[] = ZjF from rfl]
 have hk1 : ∀ b, Ze3 e b = if b = true then some (decide (e.fBinds.length = 0) && (decide (e.fKids.length = 0) && decide (e.fAlts.length = 0))) else if e.fOp = 5 then some (decide (e.fArgs.length = 0 ∧ 1 ≤ e.fBinds.length ∧ e.fKids.length = 1 ∧ e.fAlts.length = 0 ∧ (e.fRec = true ∨ e.fBinds.length = 1))) else if e.fOp = 6 then some (decide (e.fArgs.length = 0 ∧ e.fBinds.length = 0 ∧ e.fKids.length = 1 ∧ 1 ≤ e.fAlts.length)) else some false := by
  intro b
  rw [Ze3]
  simp only [z0, z1, zm, zs, Bool.and_true, Bool.true_and]
  simp only [ieq]
  cases b with
  | true => rfl
  | false =>
   rw [ifF, ifF]
   by_cases h5 : e.fOp = 5
   ·rw [decide_eq_true h5, ifT, if_pos h5]
    congr 1
    rw [Bool.eq_iff_iff]
    simp only [Bool.and_eq_true, Bool.or_eq_true, decide_eq_true_eq]
    exact ⟨fun ⟨⟨a, b, c, d⟩, f⟩ => ⟨a, b, c, d, f⟩, fun ⟨a, b, c, d, f⟩ => ⟨⟨a, b, c, d⟩, f⟩⟩
   ·rw [decide_eq_false h5, ifF, if_neg h5]
    by_cases h6 : e.fOp = 6
    ·rw [decide_eq_true h6, ifT, if_pos h6]
     congr 1
     rw [Bool.eq_iff_iff]
     simp only [Bool.and_eq_true, decide_eq_true_eq]
    ·rw [decide_eq_false h6, ifF, if_neg h6]
 rw [hk1, hk1]
 unfold shB
 have hnn : Zdx e.fName = true → e.fName ≠ ZjF := ZEb
 by_cases h1 : e.fOp = 1
 ·rw [if_pos h1]
  simp only [h1]
  generalize Zdx e.fName = nb at *
  cases nb with
  | true => simp [hnn rfl]
  | false =>
   cases hr : e.fRec with
   | true => simp
   | false =>
    by_cases hn : e.fName = ZjF
    ·simp [hn, Bool.and_assoc]
    ·simp [hn]
 ·by_cases h2 : e.fOp = 2
  ·rw [if_neg h1, if_pos h2]
   simp only [h2]
   generalize Zdx e.fName = nb at *
   cases nb <;> cases e.fRec <;> simp [Bool.and_assoc]
  ·by_cases h3 : e.fOp = 3
   ·rw [if_neg h1, if_neg h2, if_pos (show e.fOp = 3 ∨ e.fOp = 4 from .inl h3)]
    simp only [h3]
    generalize Zdx e.fName = nb at *
    cases nb <;> cases e.fRec <;> simp [Bool.and_assoc]
   ·by_cases h4 : e.fOp = 4
    ·rw [if_neg h1, if_neg h2, if_pos (show e.fOp = 3 ∨ e.fOp = 4 from .inr h4)]
     simp only [h4]
     generalize Zdx e.fName = nb at *
     cases nb <;> cases e.fRec <;> simp [Bool.and_assoc]
    ·rw [if_neg h1, if_neg h2, if_neg (show ¬(e.fOp = 3 ∨ e.fOp = 4) from fun h => h.elim h3 h4)]
     by_cases h5 : e.fOp = 5
     ·rw [if_pos h5]
      simp only [h5]
      generalize Zdx e.fName = nb at *
      cases nb with
      | true => simp [hnn rfl]
      | false =>
       by_cases hn : e.fName = ZjF
       ·cases e.fRec <;> simp [hn]
       ·simp [hn]
     ·rw [if_neg h5]
      by_cases h6 : e.fOp = 6
      ·rw [if_pos h6]
       simp only [h6]
       generalize Zdx e.fName = nb at *
       cases nb <;> cases e.fRec <;> simp
      ·rw [if_neg h6]
       simp only [h1, h2, h3, h4, h5, h6, decide_false]
       split <;> simp
theorem ZyC (e : Zj) : Zeg e = some (e.fArgs.all atB && shB e) := by
 have hk2 : ∀ b, ZcD e b = if b = true then some (decide (e.fRec = false ∧ e.fBinds.length = 0 ∧ e.fKids.length = 0 ∧ e.fAlts.length = 0) && Zdx e.fName) else if e.fOp = 5 then some (decide (e.fName = ZjF ∧ e.fArgs.length = 0 ∧ 1 ≤ e.fBinds.length ∧ e.fKids.length = 1 ∧ e.fAlts.length = 0 ∧ (e.fRec = true ∨ e.fBinds.length = 1))) else if e.fOp = 6 then some (decide (Zdx e.fName = true ∧ e.fRec = false ∧ e.fArgs.length = 0 ∧ e.fBinds.length = 0 ∧ e.fKids.length = 1 ∧ 1 ≤ e.fAlts.length)) else some false := by
  intro b
  rw [ZcD]
  simp only [z0, z1, zg, Zf1, (Zd8 e.fName).2]
  simp only [ieq]
  cases b with
  | true =>
   rw [ifT, ifT]
   have : ((((!e.fRec) && decide (e.fBinds.length = 0)) && decide (e.fKids.length = 0)) && decide (e.fAlts.length = 0)) = decide (e.fRec = false ∧ e.fBinds.length = 0 ∧ e.fKids.length = 0 ∧ e.fAlts.length = 0) := by
    rw [Bool.eq_iff_iff]; simp [Bool.and_assoc, and_assoc]
   rw [this]
   cases decide (e.fRec = false ∧ e.fBinds.length = 0 ∧ e.fKids.length = 0 ∧ e.fAlts.length = 0) <;> rfl
  | false =>
   rw [ifF, ifF]
   by_cases h5 : e.fOp = 5
   ·rw [decide_eq_true h5, ifT, if_pos h5]
    congr 1
    rw [Bool.eq_iff_iff, show ByteArray.mk #[] = ZjF from rfl]
    simp only [Bool.and_eq_true, Bool.or_eq_true, decide_eq_true_eq]
    exact ⟨fun ⟨⟨⟨⟨⟨a, b⟩, c⟩, d⟩, f⟩, g⟩ => ⟨a, b, f, d, c, g⟩, fun ⟨a, b, f, d, c, g⟩ => ⟨⟨⟨⟨⟨a, b⟩, c⟩, d⟩, f⟩, g⟩⟩
   ·rw [decide_eq_false h5, ifF, if_neg h5]
    by_cases h6 : e.fOp = 6
    ·rw [decide_eq_true h6, ifT, if_pos h6, Zo]
     congr 1
     rw [Bool.eq_iff_iff]
     simp only [Bool.and_eq_true, Bool.not_eq_true', decide_eq_true_eq]
     exact ⟨fun ⟨⟨⟨⟨⟨a, b⟩, c⟩, d⟩, f⟩, g⟩ => ⟨a, c, b, d, f, g⟩, fun ⟨a, c, b, d, f, g⟩ => ⟨⟨⟨⟨⟨a, b⟩, c⟩, d⟩, f⟩, g⟩⟩
    ·rw [decide_eq_false h6, ifF, if_neg h6]
 have key : ∀ (s : List ZJ) (i : Nat), Zbg i e s = some (s.all atB && shB e) := by
  intro s
  induction s with
  | nil =>
   intro i
   rw [Zbg]
   simp only [z0, z1, zg, Zf1, (Zd8 e.fName).2]
   simp only [ieq]
   rw [List.all_nil, Bool.true_and, hk2, hk2]
   unfold shB
   by_cases h1 : e.fOp = 1
   ·rw [decide_eq_true h1, ifT, if_pos h1]
    congr 1
    rw [Bool.eq_iff_iff, show ByteArray.mk #[] = ZjF from rfl]
    simp only [Bool.and_eq_true, Bool.not_eq_true', decide_eq_true_eq]
    exact ⟨fun ⟨⟨⟨⟨⟨a, b⟩, c⟩, d⟩, f⟩, g⟩ => ⟨f, a, g, b, c, d⟩, fun ⟨f, a, g, b, c, d⟩ => ⟨⟨⟨⟨⟨a, b⟩, c⟩, d⟩, f⟩, g⟩⟩
   ·rw [decide_eq_false h1, ifF, if_neg h1]
    by_cases h2 : e.fOp = 2
    ·rw [decide_eq_true h2, ifT, if_pos h2]
     have : ((((!e.fRec) && decide (e.fBinds.length = 0)) && decide (e.fKids.length = 0)) && decide (e.fAlts.length = 0)) = decide (e.fRec = false ∧ e.fBinds.length = 0 ∧ e.fKids.length = 0 ∧ e.fAlts.length = 0) := by
      rw [Bool.eq_iff_iff]; simp [Bool.and_assoc, and_assoc]
     rw [this]
     by_cases hd : e.fRec = false ∧ e.fBinds.length = 0 ∧ e.fKids.length = 0 ∧ e.fAlts.length = 0
     ·rw [decide_eq_true hd, ifT, Zo, Zo]
      congr 1
      rw [Bool.eq_iff_iff]
      simp only [Bool.and_eq_true, decide_eq_true_eq]
      exact ⟨fun ⟨a, b⟩ => ⟨a, hd.1, b, hd.2⟩, fun ⟨a, _, b, _⟩ => ⟨a, b⟩⟩
     ·rw [decide_eq_false hd, ifF, Zo]
      congr 1
      rw [Bool.false_and, eq_comm, decide_eq_false_iff_not]
      exact fun ⟨_, a, _, b⟩ => hd ⟨a, b⟩
    ·rw [decide_eq_false h2, ifF, if_neg h2]
     have hc : ∀ nb : Bool, (decide (e.fRec = false ∧ e.fBinds.length = 0 ∧ e.fKids.length = 0 ∧ e.fAlts.length = 0) && nb) = decide (nb = true ∧ e.fRec = false ∧ e.fBinds.length = 0 ∧ e.fKids.length = 0 ∧ e.fAlts.length = 0) := fun nb => by
      rw [Bool.eq_iff_iff]; simp only [Bool.and_eq_true, decide_eq_true_eq]; exact and_comm
     by_cases h3 : e.fOp = 3
     ·rw [decide_eq_true h3, ifT, ifT, if_pos (show e.fOp = 3 ∨ e.fOp = 4 from .inl h3), hc]
     ·rw [decide_eq_false h3, ifF]
      by_cases h4 : e.fOp = 4
      ·rw [decide_eq_true h4, ifT, if_pos (show e.fOp = 3 ∨ e.fOp = 4 from .inr h4), hc]
      ·rw [decide_eq_false h4, ifF, if_neg (show ¬(e.fOp = 3 ∨ e.fOp = 4) from fun h => h.elim h3 h4)]
       by_cases h5 : e.fOp = 5
       ·rw [if_pos h5, if_pos h5]
       ·rw [if_neg h5, if_neg h5]
        by_cases h6 : e.fOp = 6
        ·rw [if_pos h6, if_pos h6]
        ·rw [if_neg h6, if_neg h6]
  | cons a s ih =>
   intro i
   rw [Zbg, List.all_cons]
   show (ZdV a >>= _) = _
   rw [(Zt6 a).2, Zo, ih]
   cases atB a <;> rfl
 exact key e.fArgs 0

end Go.Proofs.YtklkaikbpciepaaGreatDoor
