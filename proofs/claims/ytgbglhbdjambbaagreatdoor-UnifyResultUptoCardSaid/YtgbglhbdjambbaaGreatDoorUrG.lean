/- Part 7 of the proof: the program's functions as Lean functions with their walks, and the plain law. It holds for every input, without conditions. -/
import Derived.Lib.LaidTab
import Derived.Lib.ItoaNum
import Derived.KernelRfl
import Derived.Stop.LaidErr
import Derived.Test.YtgbglhbdjambbaaGreatDoorRows
import Derived.Test.YtgbglhbdjambbaaGreatDoorUrA
import Derived.Test.YtgbglhbdjambbaaGreatDoorUrB
import Derived.Test.YtgbglhbdjambbaaGreatDoorUrC
import Derived.Test.YtgbglhbdjambbaaGreatDoorUrD
import Derived.Test.YtgbglhbdjambbaaGreatDoorUrE
import Derived.Test.YtgbglhbdjambbaaGreatDoorUrF
set_option linter.unusedVariables false
set_option linter.unusedSimpArgs false
set_option maxRecDepth 100000
set_option maxHeartbeats 4000000
set_option synthInstance.maxHeartbeats 1000000
set_option synthInstance.maxSize 1000
namespace Go.Proofs.YtgbglhbdjambbaaGreatDoor
open Go Go.Am
def Zau : Option (Bool) :=
 Zdn (ByteArray.mk #[73, 110, 116]) >>= fun r1 =>
 ZbI (Za.mk 1 (ByteArray.mk #[97]) (Zk.mk ([] : List Zk)) ([] : List Za)) r1 >>= fun r2 =>
 Zdn (ByteArray.mk #[91, 93]) >>= fun r3 =>
 ZbI (Za.mk 1 (ByteArray.mk #[97]) (Zk.mk ([] : List Zk)) ([] : List Za)) (Za.mk 3 (ByteArray.mk #[]) (Zk.mk ([] : List Zk)) ([r3, (Za.mk 1 (ByteArray.mk #[97]) (Zk.mk ([] : List Zk)) ([] : List Za))])) >>= fun r4 =>
 Zdn (ByteArray.mk #[73, 110, 116]) >>= fun r5 =>
 Zdn (ByteArray.mk #[66, 111, 111, 108]) >>= fun r6 =>
 ZbI r5 r6 >>= fun r7 =>
 (if ((r2.2 == 0) && (((r2.1.length : Nat) : Int) == 1)) = true then (ixI r2.1 0) >>= fun x9 =>
 some (x9.fName.toList == (ByteArray.mk #[97]).toList) else some false) >>= fun c10 =>
 (if c10 = true then (ixI r2.1 0) >>= fun x11 =>
 some (x11.fType.fName.toList == (ByteArray.mk #[73, 110, 116]).toList) else some false) >>= fun c12 =>
 some ((c12 && (r4.2 == 23)) && (r7.2 == 22))
def Zau.M (r : Bool) : Prop :=
 Zj Tryz.prog 11 [] [] (fun d b => d = .c none (.v (.bool r)) ∧ b = [])
theorem Zdh (r : Bool) (hF : Zau = some r) : Zau.M r := by
 unfold Zau at hF
 unfold Zau.M
 refine en Tryz.func11 ?_
 refine AWP.seq ?_
 refine ns ?_
 refine AWP.seq ?_
 refine ns ?_
 refine AWP.seq ?_
 obtain ⟨r1, hr1, hF⟩ := bind_some hF
 obtain ⟨r2, hr2, hF⟩ := bind_some hF
 refine nn ?_
 refine Or.inl (Exists.intro 7 (Exists.intro [[], [], [], [], [], [], []] (Exists.intro [([10, 11, 12, 9, 13, 14, 2], [], []), ([10, 11, 12, 9, 13, 14, 2], [], []), ([12, 9, 13, 14, 2], [], []), ([9, 13, 14, 2], [], []), ([13, 14, 2], [], []), ([13, 14, 2], [], []), ([14, 2], [], [])] (Exists.intro [10, 11, 12, 9, 13, 14, 2] (And.intro (by decide +kernel) ?_)))))
 refine dp ?_
 (refine st ?_; apply Exists.intro; apply Exists.intro; apply And.intro; (focus ((conv => whnf); refine Exists.intro [] ?_; (conv => whnf); refine And.intro rfl ?_; (conv => whnf); refine Zj.mono (Zj.weak (rn []) (ZfI (ByteArray.mk #[73, 110, 116]) _ hr1) rfl (WS.mk (tc Zc) Zb)) ?_; rintro d b ⟨rfl, rfl⟩; exact And.intro rfl (And.intro rfl rfl))); apply And.intro; (focus exact rfl); (conv => whnf))
 (refine st ?_; apply Exists.intro; apply Exists.intro; apply And.intro; (focus ((conv => whnf); refine Exists.intro [] ?_; (conv => whnf); refine And.intro rfl ?_; (conv => whnf); refine Zj.mono (Zj.weak (rn []) (ZfR (Za.mk 1 (ByteArray.mk #[97]) (Zk.mk ([] : List Zk)) ([] : List Za)) r1 _ hr2) rfl (WS.mk (Zd (Zt (lc (lc (ZaR WE.nil (ZaR WE.nil Zo))))) (Zd (Zt (lc (lc (lc (lc Zo))))) Zc)) Zb)) ?_; rintro d b ⟨rfl, rfl⟩; exact And.intro rfl (And.intro rfl rfl))); apply And.intro; (focus exact rfl); (conv => whnf))
 refine dp ?_
 refine dp ?_
 refine dp ?_
 refine dp ?_
 refine st ?_
 refine AWP.seq ?_
 obtain ⟨r3, hr3, hF⟩ := bind_some hF
 obtain ⟨r4, hr4, hF⟩ := bind_some hF
 refine nn ?_
 refine Or.inl (Exists.intro 10 (Exists.intro [[], [], [], [], [], [], [], [], [], []] (Exists.intro [([16, 17, 18, 19, 20, 21, 15, 22, 23, 4], [], []), ([16, 17, 18, 19, 20, 21, 15, 22, 23, 4], [], []), ([16, 17, 18, 19, 20, 21, 15, 22, 23, 4], [], []), ([16, 19, 20, 21, 15, 22, 23, 4], [], []), ([16, 20, 21, 15, 22, 23, 4], [], []), ([21, 15, 22, 23, 4], [], []), ([15, 22, 23, 4], [], []), ([22, 23, 4], [], []), ([22, 23, 4], [], []), ([23, 4], [], [])] (Exists.intro [16, 17, 18, 19, 20, 21, 15, 22, 23, 4] (And.intro (by decide +kernel) ?_)))))
 refine dp ?_
 (refine st ?_; apply Exists.intro; apply Exists.intro; apply And.intro; (focus ((conv => whnf); refine Exists.intro [] ?_; (conv => whnf); refine And.intro rfl ?_; (conv => whnf); refine Zj.mono (Zj.weak (rn []) (ZfI (ByteArray.mk #[91, 93]) _ hr3) rfl (WS.mk (tc Zc) Zb)) ?_; rintro d b ⟨rfl, rfl⟩; exact And.intro rfl (And.intro rfl rfl))); apply And.intro; (focus exact rfl); (conv => whnf))
 refine dp ?_
 refine de (Zbv (f := Za.cells) (ZdA (Za.cells_eq r3) (lc (lc (lc (lc Zo))))) (Zbv (f := Za.cells) (ZdA (Za.cells_eq (Za.mk 1 (ByteArray.mk #[97]) (Zk.mk ([] : List Zk)) ([] : List Za))) (lc (lc (ZaR WE.nil (ZaR WE.nil Zo))))) (ZY (f := Za.cells)))) ?_
 refine dp ?_
 (refine st ?_; apply Exists.intro; apply Exists.intro; apply And.intro; (focus ((conv => whnf); refine Exists.intro [] ?_; (conv => whnf); refine And.intro rfl ?_; (conv => whnf); refine Zj.mono (Zj.weak (rn []) (ZfR (Za.mk 1 (ByteArray.mk #[97]) (Zk.mk ([] : List Zk)) ([] : List Za)) (Za.mk 3 (ByteArray.mk #[]) (Zk.mk ([] : List Zk)) ([r3, (Za.mk 1 (ByteArray.mk #[97]) (Zk.mk ([] : List Zk)) ([] : List Za))])) _ hr4) rfl (WS.mk (Zd (Zt (lc (lc (ZaR WE.nil (ZaR WE.nil Zo))))) (Zd (Zt (lc (lc (ZaR WE.nil (lc Zo))))) Zc)) Zb)) ?_; rintro d b ⟨rfl, rfl⟩; exact And.intro rfl (And.intro rfl rfl))); apply And.intro; (focus exact rfl); (conv => whnf))
 refine dp ?_
 refine dp ?_
 refine dp ?_
 refine dp ?_
 refine st ?_
 refine AWP.seq ?_
 obtain ⟨r5, hr5, hF⟩ := bind_some hF
 obtain ⟨r6, hr6, hF⟩ := bind_some hF
 obtain ⟨r7, hr7, hF⟩ := bind_some hF
 refine ns ?_
 refine e3 ?_
 refine st ?_
 refine cm (Zj.weak (rn []) (ZfI (ByteArray.mk #[73, 110, 116]) _ hr5) rfl (WS.mk (tc Zc) Zb)) ?_
 refine st ?_
 refine e3 ?_
 refine st ?_
 refine cm (Zj.weak (rn []) (ZfI (ByteArray.mk #[66, 111, 111, 108]) _ hr6) rfl (WS.mk (tc Zc) Zb)) ?_
 refine st ?_
 refine e3 ?_
 refine st ?_
 refine cm (Zj.weak (rn []) (ZfR r5 r6 _ hr7) rfl (WS.mk (Zd (Zt (lc (lc (lc (lc Zo))))) (Zd (Zt (lc (lc (lc (lc Zo))))) Zc)) Zb)) ?_
 refine st ?_
 refine AWP.seq ?_
 obtain ⟨c10, Zdr, hF⟩ := bind_some hF
 obtain ⟨c12, ZcH, hF⟩ := bind_some hF
 refine AWP.cutN (fun T => ∃ r, WS r T ⟨[(0, .c none (.v (.bool ((c12 && (r4.2 == 23)) && (r7.2 == 22)))))], []⟩) ?_ (fun T hw => ?_)
 ·refine ns ?_
  refine Zm true (fun ZbD => ?_) (fun ZbD => ?_)
  ·(conv => whnf)
   refine st ?_
   intro hlen8
   (try rw [List.length_map] at hlen8)
   (try rw [List.length_map])
   refine st ?_
   refine Zm true (fun Zdl => ?_) (fun Zdl => ?_)
   ·have Zdr := ift (And.intro ZbD Zdl) Zdr
    obtain ⟨x9, hx90, hx9, Zdr⟩ := ZcJ Zdr
    (conv => whnf)
    refine sr (ZbW (f := Ze.cells) (Ze.cells_eq x9) hx9) ?_
    obtain rfl := Zg Zdr
    refine st ?_
    refine Zm true (fun Zfg => ?_) (fun Zfg => ?_)
    ·have ZcH := ift (And.intro ZbD (And.intro Zdl Zfg)) ZcH
     obtain ⟨x11, hx110, ZHe, ZcH⟩ := ZcJ ZcH
     (conv => whnf)
     refine sr (ZbW (f := Ze.cells) (Ze.cells_eq x11) ZHe) ?_
     obtain rfl := Zg ZcH
     refine st ?_
     refine Zm true (fun Zgv => ?_) (fun Zgv => ?_)
     ·(conv => whnf)
      refine st ?_
      refine Zm true (fun ZiJ => ?_) (fun ZiJ => ?_)
      ·(conv => whnf)
       refine st ?_
       exact wx (WS.mk (Zd (Zr (web (And.intro ZbD (And.intro Zdl (And.intro Zfg (And.intro Zgv ZiJ)))))) Zc) Zb)
      ·(conv => whnf)
       refine st ?_
       exact wx (WS.mk (Zd (Zr (web (And.intro ZbD (And.intro Zdl (And.intro Zfg (And.intro Zgv ZiJ)))))) Zc) Zb)
     ·(conv => whnf)
      refine st ?_
      exact wx (WS.mk (Zd (Zr (web (And.intro ZbD (And.intro Zdl (And.intro Zfg Zgv))))) Zc) Zb)
    ·have ZcH := ife (And.intro ZbD (And.intro Zdl Zfg)) ZcH
     (conv => whnf)
     obtain rfl := Zg ZcH
     refine st ?_
     exact wx (WS.mk (Zd (Zr (web (And.intro ZbD (And.intro Zdl Zfg)))) Zc) Zb)
   ·have Zdr := ife (And.intro ZbD Zdl) Zdr
    (conv => whnf)
    obtain rfl := Zg Zdr
    have ZcH := ife (And.intro ZbD Zdl) ZcH
    obtain rfl := Zg ZcH
    refine st ?_
    exact wx (WS.mk (Zd (Zr (web (And.intro ZbD Zdl))) Zc) Zb)
  ·(conv => whnf)
   have Zdr := ife ZbD Zdr
   obtain rfl := Zg Zdr
   have ZcH := ife ZbD ZcH
   obtain rfl := Zg ZcH
   refine st ?_
   exact wx (WS.mk (Zd (Zr (web ZbD)) Zc) Zb)
 obtain ⟨r0, hw⟩ := hw
 (conv => whnf)
 refine AWP.weak r0 hw ?_
 obtain rfl := Zg hF
 refine ns ?_
 refine Exists.intro [] ?_
 refine st ?_
 exact wx (WS.mk (tc Zc) Zb)

def Zbg (l : (List Za)) (n_3 : Int) (i_4 : Nat) (ZaP : (List Za)) : Option (Bool) :=
 (match ZaP with
 | x22 :: Zv5 =>
 ZaN x22 >>= fun r25 =>
 ZaG x22 >>= fun r26 =>
 if (decide (r26 > 110)) = true then
 some false
 else
 Zbg l (IntKind.i64.wrap (n_3 + r25)) (i_4 + 1) Zv5
 | [] =>
 some (decide (n_3 ≤ 400)))
 partial_fixpoint
def Zbg.M (l : (List Za)) (n_3 : Int) (i_4 : Nat) (ZaP : (List Za)) (r : Bool) : Prop :=
 ∀ Zdx : List Za, l = Zdx ++ ZaP → i_4 = Zdx.length → AWL Tryz.prog 26 (Code.sub (Zq Tryz.f10) [1, 1, 0, 1, 0, 0]) (Code.cont Tryz.prog 26 (Zq Tryz.f10) [1, 1, 0, 1, 0] (ZbV tab Tryz.f10.results (ZbX (.c none (.v (.bool r))) []))) ⟨[(0, .c none (.sl (l.map Za.cells))), (3, .c none (.v (.int .i64 n_3))), (4, .c none (.v (.int .i64 ((i_4 : Nat) : Int))))], []⟩
theorem ZlA (l : (List Za)) (n_3 : Int) (i_4 : Nat) (ZaP : (List Za)) : ∀ r, Zbg l n_3 i_4 ZaP = some r → Zbg.M l n_3 i_4 ZaP r := by
 refine Zbg.partial_correctness l (fun n_3 i_4 ZaP r => Zbg.M l n_3 i_4 ZaP r) ?_ n_3 i_4 ZaP
 intro lazyclaw18_small_l1' Zhh n_3 i_4 ZaP r hF
 have Zll := fun (_l : (List Za)) (n_3 : Int) (i_4 : Nat) (ZaP : (List Za)) => Zhh n_3 i_4 ZaP
 clear Zhh
 unfold Zbg.M
 intro Zdx ZhJ ZhD
 refine AWL.step ?_
 refine AWP.seq ?_
 refine AWP.seq ?_
 refine ns ?_
 intro hlen21
 (try rw [List.length_map] at hlen21)
 (try rw [List.length_map])
 refine st ?_
 refine nw ?_
 refine ZN ZhJ ZhD (fun x22 Zv5 Zwe ZBk ZD2 => ?_) (fun Zwe => ?_)
 ·subst Zwe
  refine nw ?_
  refine AWP.seq ?_
  refine AWP.block ?_
  refine AWP.seq ?_
  obtain ⟨r25, ZC6, hF⟩ := bind_some hF
  refine nn ?_
  refine sr (Zab (f := Za.cells) (Za.cells_eq x22) ZBk) ?_
  refine st ?_
  refine e3 ?_
  refine st ?_
  refine cm (Zj.weak (rn []) (ZgZ x22 _ ZC6) rfl (WS.mk (Zd (Zt (lc (lc (lc (lc Zo))))) Zc) Zb)) ?_
  refine st ?_
  refine AWP.seq ?_
  obtain ⟨r26, ZHn, hF⟩ := bind_some hF
  refine nn ?_
  refine sr (Zab (f := Za.cells) (Za.cells_eq x22) ZBk) ?_
  refine st ?_
  refine e3 ?_
  refine st ?_
  refine cm (Zj.weak (rn []) (Zgy x22 _ ZHn) rfl (WS.mk (Zd (Zt (lc (lc (lc (lc Zo))))) Zc) Zb)) ?_
  refine st ?_
  refine nw ?_
  refine Zi hF (fun Zty hF => ?_) (fun Zty hF => ?_)
  ·refine AWP.seq ?_
   refine ns ?_
   obtain rfl := Zg hF
   refine ns ?_
   refine Exists.intro [] ?_
   refine st ?_
   exact wx (WS.mk (tc Zc) Zb)
  ·refine nw ?_
   refine ns ?_
   refine AWL.weak (rn []) ?_ (Zll l (IntKind.i64.wrap (n_3 + r25)) (i_4 + 1) Zv5 _ hF (Zdx ++ [x22]) (by rw [ZhJ]; simp) (by rw [ZhD]; simp))
   exact (WS.mk (tc (tc (Zd (Zr (Zdf (ZV hlen21 ZD2))) Zc))) Zb)
 ·subst Zwe
  refine nw ?_
  refine AWP.seq ?_
  refine ns ?_
  obtain rfl := Zg hF
  refine ns ?_
  refine Exists.intro [] ?_
  refine st ?_
  exact wx (WS.mk (tc Zc) Zb)

def Zca (l : (List Za)) : Option (Bool) :=
 Zbg l 0 0 l
def Zca.M (l : (List Za)) (r : Bool) : Prop :=
 Zj Tryz.prog 10 [.c none (.sl (l.map Za.cells))] [] (fun d b => d = .c none (.v (.bool r)) ∧ b = [])
theorem Zgx (l : (List Za)) (r : Bool) (hF : Zca l = some r) : Zca.M l r := by
 unfold Zca at hF
 unfold Zca.M
 refine en Tryz.func10 ?_
 refine AWP.seq ?_
 refine ns ?_
 refine AWP.seq ?_
 refine ns ?_
 refine AWP.seq ?_
 refine AWP.seq ?_
 refine ns ?_
 refine AWP.block ?_
 refine AWP.loop ?_
 refine AWL.weak (rn []) ?_ (ZlA l 0 0 l _ hF ([]) rfl rfl)
 exact (WS.mk (tc (tc (tc Zc))) Zb)

def ZbT (a : Za) (b : Za) : Option (Bool) :=
 Zca ([a, b]) >>= fun r4 =>
 if (!r4) = true then
 Zau >>= fun r6 =>
 some r6
 else
 ZbI a b >>= fun r7 =>
 ZdT a b >>= fun r8 =>
 (if (r7.2 == r8.2) = true then ZbM r7.1 r8.1 >>= fun r9 =>
 some r9 else some false) >>= fun c10 =>
 (if c10 = true then Zau >>= fun r11 =>
 some r11 else some false) >>= fun c12 =>
 some c12
def ZbT.M (a : Za) (b : Za) (r : Bool) : Prop :=
 Zj Tryz.prog 3 [.agg [.v (.int .i64 a.fOp), .v (.string a.fName), .sl (a.fBound.fArgs.map Zk.cells), .sl (a.fKids.map Za.cells)], .agg [.v (.int .i64 b.fOp), .v (.string b.fName), .sl (b.fBound.fArgs.map Zk.cells), .sl (b.fKids.map Za.cells)]] [] (fun d b => d = .c none (.v (.bool r)) ∧ b = [])
theorem Zj3 (a : Za) (b : Za) (r : Bool) (hF : ZbT a b = some r) : ZbT.M a b r := by
 unfold ZbT at hF
 unfold ZbT.M
 refine en Tryz.func3 ?_
 refine AWP.seq ?_
 refine ns ?_
 refine AWP.seq ?_
 refine AWP.seq ?_
 obtain ⟨r4, hr4, hF⟩ := bind_some hF
 refine ns ?_
 refine Exists.intro _ (And.intro (Zbv (f := Za.cells) (ZdA (Za.cells_eq a) (lc (lc (lc (lc Zo))))) (Zbv (f := Za.cells) (ZdA (Za.cells_eq b) (lc (lc (lc (lc Zo))))) (ZY (f := Za.cells)))) ?_)
 refine st ?_
 refine Exists.intro [11] (Exists.intro [] (Exists.intro [] ?_))
 refine st ?_
 refine cm (Zj.weak (rn []) (Zgx ([a, b]) _ hr4) rfl (WS.mk (tc Zc) Zb)) ?_
 refine st ?_
 refine nw ?_
 refine Zi hF (fun hc5 hF => ?_) (fun hc5 hF => ?_)
 ·refine AWP.seq ?_
  obtain ⟨r6, hr6, hF⟩ := bind_some hF
  refine ns ?_
  refine e3 ?_
  refine st ?_
  refine cm (Zj.weak (rn []) (Zdh _ hr6) rfl (WS.mk Zc Zb)) ?_
  refine st ?_
  obtain rfl := Zg hF
  refine ns ?_
  refine Exists.intro [] ?_
  refine st ?_
  exact wx (WS.mk (tc Zc) Zb)
 ·refine nw ?_
  refine AWP.seq ?_
  obtain ⟨r7, hr7, hF⟩ := bind_some hF
  refine ns ?_
  refine e3 ?_
  refine st ?_
  refine cm (Zj.weak (rn []) (ZfR a b _ hr7) rfl (WS.mk (Zd (Zt (lc (lc (lc (lc Zo))))) (Zd (Zt (lc (lc (lc (lc Zo))))) Zc)) Zb)) ?_
  refine st ?_
  refine AWP.seq ?_
  obtain ⟨r8, hr8, hF⟩ := bind_some hF
  refine ns ?_
  refine e3 ?_
  refine st ?_
  refine cm (Zj.weak (rn []) (ZnB a b _ hr8) rfl (WS.mk (Zd (Zt (lc (lc (lc (lc Zo))))) (Zd (Zt (lc (lc (lc (lc Zo))))) Zc)) Zb)) ?_
  refine st ?_
  refine AWP.seq ?_
  obtain ⟨c10, Zdr, hF⟩ := bind_some hF
  obtain ⟨c12, ZcH, hF⟩ := bind_some hF
  refine AWP.cutN (fun T => ∃ r, WS r T ⟨[(4, .c none (.v (.bool c12)))], []⟩) ?_ (fun T hw => ?_)
  ·refine ns ?_
   refine Zm true (fun ZbD => ?_) (fun ZbD => ?_)
   ·have Zdr := ift ZbD Zdr
    obtain ⟨r9, hr9, Zdr⟩ := bind_some Zdr
    (conv => whnf)
    refine st ?_
    refine e3 ?_
    refine st ?_
    refine cm (Zj.weak (rn []) (ZjJ r7.1 r8.1 _ hr9) rfl (WS.mk (tc (tc Zc)) Zb)) ?_
    refine st ?_
    obtain rfl := Zg Zdr
    refine st ?_
    refine Zm true (fun Zdl => ?_) (fun Zdl => ?_)
    ·have ZcH := ift (And.intro ZbD Zdl) ZcH
     obtain ⟨r11, ZvS, ZcH⟩ := bind_some ZcH
     (conv => whnf)
     refine st ?_
     refine e3 ?_
     refine st ?_
     refine cm (Zj.weak (rn []) (Zdh _ ZvS) rfl (WS.mk Zc Zb)) ?_
     refine st ?_
     obtain rfl := Zg ZcH
     refine st ?_
     exact wx (WS.mk (Zd (Zr (web (And.intro ZbD Zdl))) Zc) Zb)
    ·have ZcH := ife (And.intro ZbD Zdl) ZcH
     (conv => whnf)
     obtain rfl := Zg ZcH
     refine st ?_
     exact wx (WS.mk (Zd (Zr (web (And.intro ZbD Zdl))) Zc) Zb)
   ·have Zdr := ife ZbD Zdr
    (conv => whnf)
    obtain rfl := Zg Zdr
    have ZcH := ife ZbD ZcH
    obtain rfl := Zg ZcH
    refine st ?_
    exact wx (WS.mk (Zd (Zr (web ZbD)) Zc) Zb)
  obtain ⟨r0, hw⟩ := hw
  (conv => whnf)
  refine AWP.weak r0 hw ?_
  obtain rfl := Zg hF
  refine ns ?_
  refine Exists.intro [] ?_
  refine st ?_
  exact wx (WS.mk (tc Zc) Zb)

def ZaC (pairs : (List Zl)) (l_3 : (List Za)) (i_4 : Nat) : Option (Bool) :=
 if ((decide (((i_4 : Nat) : Int) < ((pairs.length : Nat) : Int))) && (decide (((i_4 : Nat) : Int) < 31))) = true then
 (pairs[i_4]?) >>= fun x62 =>
 (pairs[i_4]?) >>= fun x63 =>
 Z4 ((l_3.length + ([x62.e0, x63.e1]).length) * 72 ≤ 140737488355328) >>= fun _ =>
 Z4 (i_4 + 1 ≤ 9223372036854775807) >>= fun _ =>
 ZaC pairs (l_3 ++ ([x62.e0, x63.e1])) (i_4 + 1)
 else
 (if (decide (((pairs.length : Nat) : Int) > 30)) = true then some true else Zca l_3 >>= fun r72 =>
 some (!r72)) >>= fun c73 =>
 if c73 = true then
 Zau >>= fun r76 =>
 some r76
 else
 Zfe pairs >>= fun r77 =>
 ZcL pairs >>= fun r78 =>
 (if (r77.2 == r78.2) = true then ZbM r77.1 r78.1 >>= fun r79 =>
 some r79 else some false) >>= fun c80 =>
 (if c80 = true then Zau >>= fun r81 =>
 some r81 else some false) >>= fun c82 =>
 some c82
 partial_fixpoint
def ZaC.M (pairs : (List Zl)) (l_3 : (List Za)) (i_4 : Nat) (r : Bool) : Prop :=
 AWL Tryz.prog 63 (Code.sub (Zq Tryz.f4) [1, 1, 0, 1, 0, 0]) (Code.cont Tryz.prog 63 (Zq Tryz.f4) [1, 1, 0, 1, 0] (ZbV tab Tryz.f4.results (ZbX (.c none (.v (.bool r))) []))) ⟨[(0, .c none (.sl (pairs.map Zl.cells))), (3, .c (some (3, 28)) (.sl (l_3.map Za.cells))), (4, .c none (.v (.int .i64 ((i_4 : Nat) : Int))))], []⟩
theorem ZjZ (pairs : (List Zl)) (l_3 : (List Za)) (i_4 : Nat) : ∀ r, ZaC pairs l_3 i_4 = some r → ZaC.M pairs l_3 i_4 r := by
 refine ZaC.partial_correctness pairs (fun l_3 i_4 r => ZaC.M pairs l_3 i_4 r) ?_ l_3 i_4
 intro lazyclaw18_UnifyAll_l1' Zgb l_3 i_4 r hF
 have ZjY := fun (_pairs : (List Zl)) (l_3 : (List Za)) (i_4 : Nat) => Zgb l_3 i_4
 clear Zgb
 unfold ZaC.M
 refine AWL.step ?_
 refine AWP.seq ?_
 refine AWP.seq ?_
 refine AWP.cutN (fun T => ∃ r, WS r T ⟨[(0, .c none (.sl (pairs.map Zl.cells))), (3, .c (some (3, 28)) (.sl (l_3.map Za.cells))), (4, .c none (.v (.int .i64 ((i_4 : Nat) : Int)))), (17, .c none (.v (.bool ((decide (((i_4 : Nat) : Int) < ((pairs.length : Nat) : Int))) && (decide (((i_4 : Nat) : Int) < 31))))))], []⟩) ?_ (fun T hw => ?_)
 ·refine ns ?_
  intro hlen56
  (try rw [List.length_map] at hlen56)
  (try rw [List.length_map])
  refine st ?_
  refine Zm true (fun Zh9 => ?_) (fun Zh9 => ?_)
  ·(conv => whnf)
   refine st ?_
   exact Exists.intro (rn [(3, 3)]) (WS.mk (tc (Zd (Zak rfl (WE.refl _)) (tc (Zd (Zr (web Zh9)) Zc)))) Zb)
  ·(conv => whnf)
   refine st ?_
   exact Exists.intro (rn [(3, 3)]) (WS.mk (tc (Zd (Zak rfl (WE.refl _)) (tc (Zd (Zr (web Zh9)) Zc)))) Zb)
 obtain ⟨r0, hw⟩ := hw
 (conv => whnf)
 refine AWP.weak r0 hw ?_
 refine nw ?_
 refine Zi hF (fun Zm8 hF => ?_) (fun Zm8 hF => ?_)
 ·refine nw ?_
  refine AWP.seq ?_
  refine AWP.block ?_
  obtain ⟨x62, ZCs, hF⟩ := bind_some hF
  obtain ⟨x63, ZIy, hF⟩ := bind_some hF
  obtain ⟨ZHl, hF⟩ := Zy hF
  refine nn ?_
  refine Or.inl (Exists.intro 12 (Exists.intro [[], [], [], [], [], [], [], [], [], [], [], []] (Exists.intro [([20, 21, 22, 23, 24, 25, 26, 27, 28, 29, 30, 31], [], []), ([20, 21, 22, 23, 24, 25, 26, 27, 28, 29, 30, 31], [], []), ([20, 21, 22, 23, 24, 25, 26, 27, 28, 29, 30, 31], [], []), ([20, 23, 24, 25, 26, 27, 28, 29, 30, 31], [], []), ([20, 24, 25, 26, 27, 28, 29, 30, 31], [], []), ([20, 25, 26, 27, 28, 29, 30, 31], [], []), ([20, 21, 22, 23, 24, 25, 26, 27, 28, 29, 30, 31], [], []), ([20, 21, 22, 23, 24, 25, 26, 27, 28, 29, 30, 31], [], []), ([20, 21, 22, 23, 24, 25, 28, 29, 30, 31], [], []), ([20, 21, 22, 23, 24, 25, 29, 30, 31], [], []), ([20, 21, 22, 23, 24, 25, 30, 31], [], []), ([20, 31], [], [])] (Exists.intro [20, 21, 22, 23, 24, 25, 26, 27, 28, 29, 30, 31] (And.intro (by decide +kernel) ?_)))))
  refine dp ?_
  refine dp ?_
  refine dp ?_
  refine dr (Zab (Zl.cells_eq x62) ZCs) ?_
  refine dp ?_
  refine dp ?_
  refine dp ?_
  refine dp ?_
  refine dr (Zab (Zl.cells_eq x63) ZIy) ?_
  refine dp ?_
  refine dp ?_
  refine de (Zbv (f := Za.cells) (ZdA (Za.cells_eq x62.e0) (lc (lc (lc (lc Zo))))) (Zbv (f := Za.cells) (ZdA (Za.cells_eq x63.e1) (lc (lc (lc (lc Zo))))) (ZY (f := Za.cells)))) ?_
  refine sa (fun l => ZbS l (fun x => Za.cells_len x)) ZHl ?_
  refine Exists.intro _ (And.intro (WE.refl _) ?_)
  rw [← List.map_append]
  refine st ?_
  obtain ⟨ZDo, hF⟩ := Zy hF
  refine ns ?_
  refine AWL.weak (rn [(32, 3)]) ?_ (ZjY pairs (l_3 ++ ([x62.e0, x63.e1])) (i_4 + 1) _ hF)
  exact (WS.mk (tc (Zd (Zak rfl (WE.refl _)) (Zd (Zr (Zdf (Zdu ZDo))) Zc))) Zb)
 ·refine nw ?_
  refine AWP.seq ?_
  refine AWP.seq ?_
  obtain ⟨c73, Zr3, hF⟩ := bind_some hF
  refine AWP.cutN (fun T => ∃ r, WS r T ⟨[(0, .c none (.sl (pairs.map Zl.cells))), (40, .c none (.v (.bool c73)))], []⟩) ?_ (fun T hw => ?_)
  ·refine ns ?_
   intro hlen71
   (try rw [List.length_map] at hlen71)
   (try rw [List.length_map])
   refine st ?_
   refine Zm false (fun ZzO => ?_) (fun ZzO => ?_)
   ·have Zr3 := ift ZzO Zr3
    (conv => whnf)
    obtain rfl := Zg Zr3
    refine st ?_
    exact wx (WS.mk (tc (Zd (Zr (web ZzO)) Zc)) Zb)
   ·have Zr3 := ife ZzO Zr3
    obtain ⟨r72, ZGM, Zr3⟩ := bind_some Zr3
    (conv => whnf)
    refine st ?_
    refine Exists.intro [3] (Exists.intro [] (Exists.intro [] ?_))
    refine st ?_
    refine cm (Zj.weak (rn []) (Zgx l_3 _ ZGM) rfl (WS.mk (tc Zc) Zb)) ?_
    refine st ?_
    obtain rfl := Zg Zr3
    refine st ?_
    exact wx (WS.mk (tc (Zd (Zr (web ZzO)) Zc)) Zb)
  obtain ⟨r0, hw⟩ := hw
  (conv => whnf)
  refine AWP.weak r0 hw ?_
  refine nw ?_
  refine Zi hF (fun ZHj hF => ?_) (fun ZHj hF => ?_)
  ·refine AWP.seq ?_
   obtain ⟨r76, ZIF, hF⟩ := bind_some hF
   refine ns ?_
   refine e3 ?_
   refine st ?_
   refine cm (Zj.weak (rn []) (Zdh _ ZIF) rfl (WS.mk Zc Zb)) ?_
   refine st ?_
   obtain rfl := Zg hF
   refine ns ?_
   refine Exists.intro [] ?_
   refine st ?_
   exact wx (WS.mk (tc Zc) Zb)
  ·refine nw ?_
   refine AWP.seq ?_
   obtain ⟨r77, ZEn, hF⟩ := bind_some hF
   refine ns ?_
   refine e3 ?_
   refine st ?_
   refine cm (Zj.weak (rn []) (ZoP pairs _ ZEn) rfl (WS.mk (tc Zc) Zb)) ?_
   refine st ?_
   refine AWP.seq ?_
   obtain ⟨r78, ZIK, hF⟩ := bind_some hF
   refine ns ?_
   refine e3 ?_
   refine st ?_
   refine cm (Zj.weak (rn []) (Zj7 pairs _ ZIK) rfl (WS.mk (tc Zc) Zb)) ?_
   refine st ?_
   refine AWP.seq ?_
   obtain ⟨c80, Zr4, hF⟩ := bind_some hF
   obtain ⟨c82, ZhG, hF⟩ := bind_some hF
   refine AWP.cutN (fun T => ∃ r, WS r T ⟨[(2, .c none (.v (.bool c82)))], []⟩) ?_ (fun T hw => ?_)
   ·refine ns ?_
    refine Zm true (fun Zkw => ?_) (fun Zkw => ?_)
    ·have Zr4 := ift Zkw Zr4
     obtain ⟨r79, ZD9, Zr4⟩ := bind_some Zr4
     (conv => whnf)
     refine st ?_
     refine e3 ?_
     refine st ?_
     refine cm (Zj.weak (rn []) (ZjJ r77.1 r78.1 _ ZD9) rfl (WS.mk (tc (tc Zc)) Zb)) ?_
     refine st ?_
     obtain rfl := Zg Zr4
     refine st ?_
     refine Zm true (fun ZpG => ?_) (fun ZpG => ?_)
     ·have ZhG := ift (And.intro Zkw ZpG) ZhG
      obtain ⟨r81, ZAI, ZhG⟩ := bind_some ZhG
      (conv => whnf)
      refine st ?_
      refine e3 ?_
      refine st ?_
      refine cm (Zj.weak (rn []) (Zdh _ ZAI) rfl (WS.mk Zc Zb)) ?_
      refine st ?_
      obtain rfl := Zg ZhG
      refine st ?_
      exact wx (WS.mk (Zd (Zr (web (And.intro Zkw ZpG))) Zc) Zb)
     ·have ZhG := ife (And.intro Zkw ZpG) ZhG
      (conv => whnf)
      obtain rfl := Zg ZhG
      refine st ?_
      exact wx (WS.mk (Zd (Zr (web (And.intro Zkw ZpG))) Zc) Zb)
    ·have Zr4 := ife Zkw Zr4
     (conv => whnf)
     obtain rfl := Zg Zr4
     have ZhG := ife Zkw ZhG
     obtain rfl := Zg ZhG
     refine st ?_
     exact wx (WS.mk (Zd (Zr (web Zkw)) Zc) Zb)
   obtain ⟨r0, hw⟩ := hw
   (conv => whnf)
   refine AWP.weak r0 hw ?_
   obtain rfl := Zg hF
   refine ns ?_
   refine Exists.intro [] ?_
   refine st ?_
   exact wx (WS.mk (tc Zc) Zb)

def Zdc (pairs : (List Zl)) : Option (Bool) :=
 ZaC pairs ([] : List Za) 0
def Zdc.M (pairs : (List Zl)) (r : Bool) : Prop :=
 Zj Tryz.prog 4 [.c none (.sl (pairs.map Zl.cells))] [] (fun d b => d = .c none (.v (.bool r)) ∧ b = [])
theorem lazyclaw18_UnifyAll_ok (pairs : (List Zl)) (r : Bool) (hF : Zdc pairs = some r) : Zdc.M pairs r := by
 unfold Zdc at hF
 unfold Zdc.M
 refine en Tryz.func4 ?_
 refine AWP.seq ?_
 refine ns ?_
 refine AWP.seq ?_
 refine ns ?_
 refine Exists.intro _ (And.intro (ZY (f := Za.cells)) ?_)
 refine st ?_
 refine AWP.seq ?_
 refine AWP.seq ?_
 refine ns ?_
 refine AWP.block ?_
 refine AWP.loop ?_
 refine AWL.weak (rn [(9, 3)]) ?_ (ZjZ pairs ([] : List Za) 0 _ hF)
 exact (WS.mk (tc (Zd (Zak rfl (WE.refl _)) (tc Zc))) Zb)

mutual
def ZU (Zdp : ((List Ze) × Int)) (i_9 : Nat) : Option (Bool) :=
 if (decide (((i_9 : Nat) : Int) < ((Zdp.1.length : Nat) : Int))) = true then
 (Zdp.1[i_9]?) >>= fun ZwS =>
 Zdt ZwS.fType >>= fun Zcq =>
 Z0 Zdp i_9 Zcq 0
 else
 Zau >>= fun ZB4 =>
 some ZB4
 partial_fixpoint
def Z0 (Zdp : ((List Ze) × Int)) (i_9 : Nat) (Zcq : ((List ByteArray))) (ZeT : Nat) : Option (Bool) :=
 if (decide (((ZeT : Nat) : Int) < ((Zcq.length : Nat) : Int))) = true then
 (Zcq[ZeT]?) >>= fun ZfJ =>
 ZZ Zdp i_9 ZfJ 0 Zcq ZeT Zdp.1
 else
 ZU Zdp (i_9 + 1)
 partial_fixpoint
def ZZ (Zdp : ((List Ze) × Int)) (i_9 : Nat) (ZfJ : ByteArray) (ZkC : Nat) (Zcq : ((List ByteArray))) (ZeT : Nat) (ZeD : (List Ze)) : Option (Bool) :=
 (match ZeD with
 | Zw3 :: Zvz =>
 if (Zw3.fName.toList == ZfJ.toList) = true then
 some false
 else
 ZZ Zdp i_9 ZfJ (ZkC + 1) Zcq ZeT Zvz
 | [] =>
 Z0 Zdp i_9 Zcq (ZeT + 1))
 partial_fixpoint
end
def ZU.M (Zdp : ((List Ze) × Int)) (i_9 : Nat) (r : Bool) : Prop :=
 AWL Tryz.prog 81 (Code.sub (Zq Tryz.f5) [1, 1, 1, 1, 1, 0, 1, 0, 0]) (Code.cont Tryz.prog 81 (Zq Tryz.f5) [1, 1, 1, 1, 1, 0, 1, 0] (ZbV tab Tryz.f5.results (ZbX (.c none (.v (.bool r))) []))) ⟨[(5, .c none (.sl (Zdp.1.map Ze.cells))), (9, .c none (.v (.int .i64 ((i_9 : Nat) : Int))))], []⟩
def Z0.M (Zdp : ((List Ze) × Int)) (i_9 : Nat) (Zcq : ((List ByteArray))) (ZeT : Nat) (r : Bool) : Prop :=
 Zdp.1.length ≤ maxLen → i_9 < Zdp.1.length → Zcq.length ≤ maxLen → AWL Tryz.prog 81 (Code.sub (Zq Tryz.f5) [1, 1, 1, 1, 1, 0, 1, 0, 0, 1, 0, 0, 1, 0, 0]) (Code.cont Tryz.prog 81 (Zq Tryz.f5) [1, 1, 1, 1, 1, 0, 1, 0, 0, 1, 0, 0, 1, 0] (ZbV tab Tryz.f5.results (ZbX (.c none (.v (.bool r))) []))) ⟨[(5, .c none (.sl (Zdp.1.map Ze.cells))), (9, .c none (.v (.int .i64 ((i_9 : Nat) : Int)))), (60, .c (some (60, 9)) (.sl (Zcq.map c_S))), (61, .c none (.v (.int .i64 ((Zcq.length : Nat) : Int)))), (62, .c none (.v (.int .i64 ((ZeT : Nat) : Int))))], []⟩
def ZZ.M (Zdp : ((List Ze) × Int)) (i_9 : Nat) (ZfJ : ByteArray) (ZkC : Nat) (Zcq : ((List ByteArray))) (ZeT : Nat) (ZeD : (List Ze)) (r : Bool) : Prop :=
 ∀ ZoU : List Ze, Zdp.1 = ZoU ++ ZeD → ZkC = ZoU.length → Zdp.1.length ≤ maxLen → i_9 < Zdp.1.length → Zcq.length ≤ maxLen → ZeT < Zcq.length → AWL Tryz.prog 81 (Code.sub (Zq Tryz.f5) [1, 1, 1, 1, 1, 0, 1, 0, 0, 1, 0, 0, 1, 0, 0, 1, 1, 0, 0, 1, 1, 0, 0]) (Code.cont Tryz.prog 81 (Zq Tryz.f5) [1, 1, 1, 1, 1, 0, 1, 0, 0, 1, 0, 0, 1, 0, 0, 1, 1, 0, 0, 1, 1, 0] (ZbV tab Tryz.f5.results (ZbX (.c none (.v (.bool r))) []))) ⟨[(5, .c none (.sl (Zdp.1.map Ze.cells))), (9, .c none (.v (.int .i64 ((i_9 : Nat) : Int)))), (11, .c none (.v (.string ZfJ))), (12, .c none (.v (.int .i64 ((ZkC : Nat) : Int)))), (60, .c (some (60, 9)) (.sl (Zcq.map c_S))), (61, .c none (.v (.int .i64 ((Zcq.length : Nat) : Int)))), (62, .c none (.v (.int .i64 ((ZeT : Nat) : Int))))], []⟩
theorem Zd0 (Zdp : ((List Ze) × Int)) : (∀ (i_9 : Nat), ∀ r, ZU Zdp i_9 = some r → ZU.M Zdp i_9 r) ∧ (∀ (i_9 : Nat) (Zcq : ((List ByteArray))) (ZeT : Nat), ∀ r, Z0 Zdp i_9 Zcq ZeT = some r → Z0.M Zdp i_9 Zcq ZeT r) ∧ (∀ (i_9 : Nat) (ZfJ : ByteArray) (ZkC : Nat) (Zcq : ((List ByteArray))) (ZeT : Nat) (ZeD : (List Ze)), ∀ r, ZZ Zdp i_9 ZfJ ZkC Zcq ZeT ZeD = some r → ZZ.M Zdp i_9 ZfJ ZkC Zcq ZeT ZeD r) := by
 refine ZU.mutual_partial_correctness Zdp (fun i_9 r => ZU.M Zdp i_9 r) (fun i_9 Zcq ZeT r => Z0.M Zdp i_9 Zcq ZeT r) (fun i_9 ZfJ ZkC Zcq ZeT ZeD r => ZZ.M Zdp i_9 ZfJ ZkC Zcq ZeT ZeD r) ?_ ?_ ?_
 ·intro lazyclaw18_UnifySolves_l2' Zch i_9 r hF
  have Zd8 := fun (_r882 : ((List Ze) × Int)) (i_9 : Nat) (Zcq : ((List ByteArray))) (ZeT : Nat) => Zch i_9 Zcq ZeT
  clear Zch
  unfold ZU.M
  refine AWL.step ?_
  refine AWP.seq ?_
  refine AWP.seq ?_
  refine ns ?_
  intro hlen1252
  (try rw [List.length_map] at hlen1252)
  (try rw [List.length_map])
  refine st ?_
  refine nw ?_
  refine Zi hF (fun Zyt hF => ?_) (fun Zyt hF => ?_)
  ·have Zn8 := ZpF Zyt
   refine nw ?_
   refine AWP.seq ?_
   refine AWP.block ?_
   refine AWP.seq ?_
   obtain ⟨ZwS, ZCy, hF⟩ := bind_some hF
   obtain ⟨Zcq, ZCl, hF⟩ := bind_some hF
   refine nn ?_
   refine sr (Zab (f := Ze.cells) (Ze.cells_eq ZwS) ZCy) ?_
   refine st ?_
   refine e3 ?_
   refine st ?_
   refine cm (Zj.weak (rn []) (Zog ZwS.fType _ ZCl) rfl (WS.mk (Zd (Zt (lc (lc (lc (lc Zo))))) Zc) Zb)) ?_
   refine st ?_
   intro hlen1256
   (try rw [List.length_map] at hlen1256)
   (try rw [List.length_map])
   refine st ?_
   refine AWP.block ?_
   refine AWP.loop ?_
   refine AWL.weak (rn [(60, 60)]) ?_ (Zd8 Zdp i_9 Zcq 0 _ hF hlen1252 Zn8 hlen1256)
   exact (WS.mk (tc (tc (Zd (Zak rfl (WE.refl _)) (tc (tc Zc))))) Zb)
  ·refine nw ?_
   refine AWP.seq ?_
   obtain ⟨ZB4, ZDw, hF⟩ := bind_some hF
   refine ns ?_
   refine e3 ?_
   refine st ?_
   refine cm (Zj.weak (rn []) (Zdh _ ZDw) rfl (WS.mk Zc Zb)) ?_
   refine st ?_
   obtain rfl := Zg hF
   refine ns ?_
   refine Exists.intro [] ?_
   refine st ?_
   exact wx (WS.mk (tc Zc) Zb)
 ·intro lazyclaw18_UnifySolves_l1' lazyclaw18_UnifySolves_l3' Zfi Zcf i_9 Zcq ZeT r hF
  have ZiR := fun (_r882 : ((List Ze) × Int)) (i_9 : Nat) => Zfi i_9
  clear Zfi
  have Zd7 := fun (_r882 : ((List Ze) × Int)) (i_9 : Nat) (ZfJ : ByteArray) (ZkC : Nat) (Zcq : ((List ByteArray))) (ZeT : Nat) (ZeD : (List Ze)) => Zcf i_9 ZfJ ZkC Zcq ZeT ZeD
  clear Zcf
  unfold Z0.M
  intro hlen1252 Zn8 hlen1256
  refine AWL.step ?_
  refine AWP.seq ?_
  refine ns ?_
  refine AWP.seq ?_
  refine nw ?_
  refine Zi hF (fun Zz5 hF => ?_) (fun Zz5 hF => ?_)
  ·have Ztg := ZpF Zz5
   refine nw ?_
   refine AWP.seq ?_
   refine AWP.block ?_
   refine AWP.seq ?_
   obtain ⟨ZfJ, ZC2, hF⟩ := bind_some hF
   refine nn ?_
   refine sr (Zab (f := c_S) rfl ZC2) ?_
   refine st ?_
   refine AWP.seq ?_
   refine ns ?_
   refine AWP.block ?_
   refine AWP.loop ?_
   refine AWL.weak (rn [(60, 60)]) ?_ (Zd7 Zdp i_9 ZfJ 0 Zcq ZeT Zdp.1 _ hF ([]) rfl rfl hlen1252 Zn8 hlen1256 Ztg)
   exact (WS.mk (tc (tc (tc (tc (Zd (Zak rfl (WE.refl _)) (tc (tc Zc))))))) Zb)
  ·refine nw ?_
   refine ns ?_
   refine AWL.weak (rn []) ?_ (ZiR Zdp (i_9 + 1) _ hF)
   exact (WS.mk (tc (Zd (Zr (Zdf (ZV hlen1252 Zn8))) Zc)) Zb)
 ·intro lazyclaw18_UnifySolves_l2' lazyclaw18_UnifySolves_l3' Zch Zcf i_9 ZfJ ZkC Zcq ZeT ZeD r hF
  have Zd8 := fun (_r882 : ((List Ze) × Int)) (i_9 : Nat) (Zcq : ((List ByteArray))) (ZeT : Nat) => Zch i_9 Zcq ZeT
  clear Zch
  have Zd7 := fun (_r882 : ((List Ze) × Int)) (i_9 : Nat) (ZfJ : ByteArray) (ZkC : Nat) (Zcq : ((List ByteArray))) (ZeT : Nat) (ZeD : (List Ze)) => Zcf i_9 ZfJ ZkC Zcq ZeT ZeD
  clear Zcf
  unfold ZZ.M
  intro ZoU Zxt Zxc hlen1252 Zn8 hlen1256 Ztg
  refine AWL.step ?_
  refine AWP.seq ?_
  refine AWP.seq ?_
  refine ns ?_
  intro hlen1316
  (try rw [List.length_map] at hlen1316)
  (try rw [List.length_map])
  refine st ?_
  refine nw ?_
  refine ZN Zxt Zxc (fun Zw3 Zvz ZvD ZCM ZCN => ?_) (fun ZvD => ?_)
  ·subst ZvD
   refine nw ?_
   refine AWP.seq ?_
   refine AWP.block ?_
   refine AWP.seq ?_
   refine nn ?_
   refine sr (Zab (f := Ze.cells) (Ze.cells_eq Zw3) ZCM) ?_
   refine st ?_
   refine nw ?_
   refine Zi hF (fun ZCa hF => ?_) (fun ZCa hF => ?_)
   ·refine AWP.seq ?_
    refine ns ?_
    obtain rfl := Zg hF
    refine ns ?_
    refine Exists.intro [] ?_
    refine st ?_
    exact wx (WS.mk (tc Zc) Zb)
   ·refine nw ?_
    refine ns ?_
    refine AWL.weak (rn [(60, 60)]) ?_ (Zd7 Zdp i_9 ZfJ (ZkC + 1) Zcq ZeT Zvz _ hF (ZoU ++ [Zw3]) (by rw [Zxt]; simp) (by rw [Zxc]; simp) hlen1316 Zn8 hlen1256 Ztg)
    exact (WS.mk (tc (tc (tc (Zd (Zr (Zdf (ZV hlen1316 ZCN))) (Zd (Zak rfl (WE.refl _)) (tc (tc Zc))))))) Zb)
  ·subst ZvD
   refine nw ?_
   refine ns ?_
   refine AWL.weak (rn [(60, 60)]) ?_ (Zd8 Zdp i_9 Zcq (ZeT + 1) _ hF hlen1316 Zn8 hlen1256)
   exact (WS.mk (tc (tc (Zd (Zak rfl (WE.refl _)) (tc (Zd (Zr (Zdf (ZV hlen1256 Ztg))) Zc))))) Zb)
theorem ZiN : ∀ (Zdp : ((List Ze) × Int)) (i_9 : Nat), ∀ r, ZU Zdp i_9 = some r → ZU.M Zdp i_9 r := fun Zdp i_9 => (Zd0 Zdp).1 i_9
theorem lazyclaw18_UnifySolves_l2_ok : ∀ (Zdp : ((List Ze) × Int)) (i_9 : Nat) (Zcq : ((List ByteArray))) (ZeT : Nat), ∀ r, Z0 Zdp i_9 Zcq ZeT = some r → Z0.M Zdp i_9 Zcq ZeT r := fun Zdp i_9 Zcq ZeT => (Zd0 Zdp).2.1 i_9 Zcq ZeT
theorem lazyclaw18_UnifySolves_l3_ok : ∀ (Zdp : ((List Ze) × Int)) (i_9 : Nat) (ZfJ : ByteArray) (ZkC : Nat) (Zcq : ((List ByteArray))) (ZeT : Nat) (ZeD : (List Ze)), ∀ r, ZZ Zdp i_9 ZfJ ZkC Zcq ZeT ZeD = some r → ZZ.M Zdp i_9 ZfJ ZkC Zcq ZeT ZeD r := fun Zdp i_9 ZfJ ZkC Zcq ZeT ZeD => (Zd0 Zdp).2.2 i_9 ZfJ ZkC Zcq ZeT ZeD

def Zcm (a : Za) (b : Za) : Option (Bool) :=
 ZbI a b >>= fun Zdp =>
 Zca ([a, b]) >>= fun ZD1 =>
 if ((!ZD1) || (Zdp.2 != 0)) = true then
 Zau >>= fun ZFF =>
 some ZFF
 else
 Za3 Zdp.1 a >>= fun ZA4 =>
 Za3 Zdp.1 b >>= fun ZBB =>
 (if ((ZA4.fOp != 0) && (ZBB.fOp != 0)) = true then Zb7 ZA4 ZBB >>= fun ZFx =>
 some (!ZFx) else some false) >>= fun c896 =>
 if c896 = true then
 some false
 else
 ZU Zdp 0
def Zcm.M (a : Za) (b : Za) (r : Bool) : Prop :=
 Zj Tryz.prog 5 [.agg [.v (.int .i64 a.fOp), .v (.string a.fName), .sl (a.fBound.fArgs.map Zk.cells), .sl (a.fKids.map Za.cells)], .agg [.v (.int .i64 b.fOp), .v (.string b.fName), .sl (b.fBound.fArgs.map Zk.cells), .sl (b.fKids.map Za.cells)]] [] (fun d b => d = .c none (.v (.bool r)) ∧ b = [])
theorem lazyclaw18_UnifySolves_ok (a : Za) (b : Za) (r : Bool) (hF : Zcm a b = some r) : Zcm.M a b r := by
 unfold Zcm at hF
 unfold Zcm.M
 refine en Tryz.func5 ?_
 refine AWP.seq ?_
 refine ns ?_
 refine AWP.seq ?_
 obtain ⟨Zdp, ZGj, hF⟩ := bind_some hF
 refine ns ?_
 refine e3 ?_
 refine st ?_
 refine cm (Zj.weak (rn []) (ZfR a b _ ZGj) rfl (WS.mk (Zd (Zt (lc (lc (lc (lc Zo))))) (Zd (Zt (lc (lc (lc (lc Zo))))) Zc)) Zb)) ?_
 refine st ?_
 refine AWP.seq ?_
 refine AWP.seq ?_
 obtain ⟨ZD1, ZGw, hF⟩ := bind_some hF
 refine AWP.cutN (fun T => ∃ r, WS r T ⟨[(2, .ptr 2 0), (3, .ptr 3 0), (5, .c none (.sl (Zdp.1.map Ze.cells))), (27, .c none (.v (.bool ((!ZD1) || (Zdp.2 != 0)))))], [(2, [(none, .v (.int .i64 a.fOp)), (none, .v (.string a.fName)), (none, .sl (a.fBound.fArgs.map Zk.cells)), (none, .sl (a.fKids.map Za.cells))]), (3, [(none, .v (.int .i64 b.fOp)), (none, .v (.string b.fName)), (none, .sl (b.fBound.fArgs.map Zk.cells)), (none, .sl (b.fKids.map Za.cells))])]⟩) ?_ (fun T hw => ?_)
 ·refine ns ?_
  refine Exists.intro _ (And.intro (Zbv (f := Za.cells) (ZdA (Za.cells_eq a) (lc (lc (lc (lc Zo))))) (Zbv (f := Za.cells) (ZdA (Za.cells_eq b) (lc (lc (lc (lc Zo))))) (ZY (f := Za.cells)))) ?_)
  refine st ?_
  refine Exists.intro [21] (Exists.intro [] (Exists.intro [] ?_))
  refine st ?_
  refine cm (Zj.weak (rn []) (Zgx ([a, b]) _ ZGw) rfl (WS.mk (tc Zc) Zb)) ?_
  refine st ?_
  refine Zm false (fun ZyU => ?_) (fun ZyU => ?_)
  ·(conv => whnf)
   refine st ?_
   exact wx (WS.mk (tp (tp (tc (Zd (Zr (web ZyU)) Zc)))) (Zf rfl (cc (cc (cc (cc Zh)))) (Zf rfl (cc (cc (cc (cc Zh)))) Zb)))
  ·(conv => whnf)
   refine st ?_
   exact wx (WS.mk (tp (tp (tc (Zd (Zr (web ZyU)) Zc)))) (Zf rfl (cc (cc (cc (cc Zh)))) (Zf rfl (cc (cc (cc (cc Zh)))) Zb)))
 obtain ⟨r0, hw⟩ := hw
 (conv => whnf)
 refine AWP.weak r0 hw ?_
 refine nw ?_
 refine Zi hF (fun ZGJ hF => ?_) (fun ZGJ hF => ?_)
 ·refine AWP.seq ?_
  obtain ⟨ZFF, ZFn, hF⟩ := bind_some hF
  refine ns ?_
  refine e3 ?_
  refine st ?_
  refine cm (Zj.weak (rn []) (Zdh _ ZFn) rfl (WS.mk Zc Zb)) ?_
  refine st ?_
  obtain rfl := Zg hF
  refine ns ?_
  refine Exists.intro [] ?_
  refine st ?_
  exact wx (WS.mk (tc Zc) Zb)
 ·refine nw ?_
  refine AWP.seq ?_
  obtain ⟨ZA4, ZEV, hF⟩ := bind_some hF
  obtain ⟨ZBB, ZEK, hF⟩ := bind_some hF
  refine nn ?_
  refine Or.inl (Exists.intro 8 (Exists.intro [[], [], [], [], [], [], [7], [8]] (Exists.intro [([29, 30, 31, 32, 33, 34, 7, 8], [7, 8], []), ([29, 30, 31, 32, 33, 34, 7, 8], [7, 8], []), ([31, 32, 33, 34, 7, 8], [7, 8], []), ([29, 30, 31, 32, 33, 34, 7, 8], [7, 8], []), ([29, 30, 31, 32, 33, 34, 7, 8], [7, 8], []), ([34, 7, 8], [7, 8], []), ([29, 30, 31, 32, 33, 34, 7, 8], [8], [7]), ([29, 30, 31, 32, 33, 34, 7, 8], [7], [8])] (Exists.intro [29, 30, 31, 32, 33, 34, 7, 8] (And.intro (by decide +kernel) ?_)))))
  refine dp ?_
  refine dp ?_
  (refine st ?_; apply Exists.intro; apply Exists.intro; apply And.intro; (focus ((conv => whnf); refine Exists.intro [] ?_; (conv => whnf); refine And.intro rfl ?_; (conv => whnf); refine Zj.mono (Zj.weak (rn []) (Ze4 Zdp.1 a _ ZEV) rfl (WS.mk (tc (Zd (Zt (lc (lc (lc (lc Zo))))) Zc)) Zb)) ?_; rintro d b ⟨rfl, rfl⟩; exact And.intro rfl (And.intro rfl rfl))); apply And.intro; (focus exact rfl); (conv => whnf))
  refine dp ?_
  refine dp ?_
  (refine st ?_; apply Exists.intro; apply Exists.intro; apply And.intro; (focus ((conv => whnf); refine Exists.intro [] ?_; (conv => whnf); refine And.intro rfl ?_; (conv => whnf); refine Zj.mono (Zj.weak (rn []) (Ze4 Zdp.1 b _ ZEK) rfl (WS.mk (tc (Zd (Zt (lc (lc (lc (lc Zo))))) Zc)) Zb)) ?_; rintro d b ⟨rfl, rfl⟩; exact And.intro rfl (And.intro rfl rfl))); apply And.intro; (focus exact rfl); (conv => whnf))
  refine dp ?_
  refine dp ?_
  refine st ?_
  refine AWP.seq ?_
  refine AWP.seq ?_
  obtain ⟨c896, ZmH, hF⟩ := bind_some hF
  refine AWP.cutN (fun T => ∃ r, WS r T ⟨[(5, .c none (.sl (Zdp.1.map Ze.cells))), (48, .c none (.v (.bool c896)))], []⟩) ?_ (fun T hw => ?_)
  ·refine ns ?_
   refine Zm true (fun Zq2 => ?_) (fun Zq2 => ?_)
   ·(conv => whnf)
    refine st ?_
    refine Zm true (fun ZuN => ?_) (fun ZuN => ?_)
    ·have ZmH := ift (And.intro Zq2 ZuN) ZmH
     obtain ⟨ZFx, ZFY, ZmH⟩ := bind_some ZmH
     (conv => whnf)
     refine st ?_
     refine e3 ?_
     refine st ?_
     refine cm (Zj.weak (rn []) (ZiY ZA4 ZBB _ ZFY) rfl (WS.mk (Zd (Zt (lc (lc (lc (lc Zo))))) (Zd (Zt (lc (lc (lc (lc Zo))))) Zc)) Zb)) ?_
     refine st ?_
     obtain rfl := Zg ZmH
     refine st ?_
     exact wx (WS.mk (tc (Zd (Zr (web (And.intro Zq2 ZuN))) Zc)) Zb)
    ·have ZmH := ife (And.intro Zq2 ZuN) ZmH
     (conv => whnf)
     obtain rfl := Zg ZmH
     refine st ?_
     exact wx (WS.mk (tc (Zd (Zr (web (And.intro Zq2 ZuN))) Zc)) Zb)
   ·(conv => whnf)
    have ZmH := ife Zq2 ZmH
    obtain rfl := Zg ZmH
    refine st ?_
    exact wx (WS.mk (tc (Zd (Zr (web Zq2)) Zc)) Zb)
  obtain ⟨r0, hw⟩ := hw
  (conv => whnf)
  refine AWP.weak r0 hw ?_
  refine nw ?_
  refine Zi hF (fun ZFH hF => ?_) (fun ZFH hF => ?_)
  ·refine AWP.seq ?_
   refine ns ?_
   obtain rfl := Zg hF
   refine ns ?_
   refine Exists.intro [] ?_
   refine st ?_
   exact wx (WS.mk (tc Zc) Zb)
  ·refine nw ?_
   refine AWP.seq ?_
   refine AWP.seq ?_
   refine ns ?_
   refine AWP.block ?_
   refine AWP.loop ?_
   refine AWL.weak (rn []) ?_ (ZiN Zdp 0 _ hF)
   exact (WS.mk (tc (tc Zc)) Zb)

theorem Zn {α β : Type} (x : α) (f : α → Option β) : (some x >>= f) = f x := rfl
theorem Zdd {p : Prop} [Decidable p] {β : Type} (f : Unit → Option β) (h : p) : (Z4 p >>= f) = f () := by unfold Z4; rw [if_pos h]; rfl
theorem ZfB {a b : ByteArray} (h : a.data.toList = b.data.toList) : a = b := by
 obtain ⟨⟨l⟩⟩ := a; obtain ⟨⟨k⟩⟩ := b
 simp only at h; rw [h]
theorem Za0 (s : ByteArray) : s.toList = s.data.toList := by
 have key : ∀ (n i : Nat) (r : List UInt8), s.size - i = n → ByteArray.toList.loop s i r = r.reverse ++ s.data.toList.drop i := by
  intro n
  induction n with
  | zero =>
   intro i r h
   rw [ByteArray.toList.loop, if_neg (by omega), List.drop_eq_nil_of_le (by show s.data.toList.length ≤ i; simp; have : s.data.size = s.size := rfl; omega), List.append_nil]
  | succ n ih =>
   intro i r h
   have hi : i < s.size := by omega
   rw [ByteArray.toList.loop, if_pos hi, ih (i + 1) _ (by omega)]
   have hd : s.data.toList.drop i = s.data.toList[i]'(by simpa using hi) :: s.data.toList.drop (i + 1) := (List.drop_eq_getElem_cons (by simpa using hi))
   rw [hd]
   have : s.get! i = s.data.toList[i]'(by simpa using hi) := by
    have hi' : i < s.data.size := hi
    show s.data[i]! = _
    rw [getElem!_pos s.data i hi']; simp
   rw [this]; simp
 show ByteArray.toList.loop s 0 [] = _
 rw [key _ 0 [] rfl]; simp
theorem ZeB (s : ByteArray) (k : Nat) : btI s ((k : Nat) : Int) = s.data.toList[k]? := by
 unfold btI
 rw [if_pos (Int.natCast_nonneg k), Int.toNat_natCast]
 rcases Nat.lt_or_ge k s.size with h | h
 ·rw [getElem?_pos s k h, List.getElem?_eq_getElem (by simpa using h)]; rfl
 ·rw [getElem?_neg s k (by omega), List.getElem?_eq_none (by simpa using h)]
theorem sz (s : ByteArray) : s.data.toList.length = s.size := by simp
def Zig (c : UInt8) : Bool := decide (65 ≤ c.toNat) && decide (c.toNat ≤ 90)
def Zhw (c : UInt8) : Bool := decide (97 ≤ c.toNat) && decide (c.toNat ≤ 122)
def ZgS (c : UInt8) : Bool := decide (48 ≤ c.toNat) && decide (c.toNat ≤ 57)
def wst (c : UInt8) : Bool := Zig c || Zhw c || c.toNat == 95
def wch (c : UInt8) : Bool := wst c || ZgS c || c.toNat == 39
def Zu2 : List UInt8 := [33, 35, 36, 37, 38, 42, 43, 46, 47, 60, 61, 62, 63, 64, 92, 94, 124, 45, 126, 58]
def Zt4 (c : UInt8) : Bool := Zu2.contains c
theorem ZCG (c : UInt8) : Zel ((c.toNat : Nat) : Int) = some (Zig c) := by
 unfold Zel Zig; congr 2 <;> (apply decide_eq_decide.2; omega)
theorem ZDL (c : UInt8) : Zcw ((c.toNat : Nat) : Int) = some (Zig c) := by
 unfold Zcw Zig; congr 2 <;> (apply decide_eq_decide.2; omega)
theorem ZEY (c : UInt8) : Zfj ((c.toNat : Nat) : Int) = some (ZgS c) := by
 unfold Zfj ZgS; congr 2 <;> (apply decide_eq_decide.2; omega)
theorem ZBV (c : UInt8) : Zc3 ((c.toNat : Nat) : Int) = some (ZgS c) := by
 unfold Zc3 ZgS; congr 2 <;> (apply decide_eq_decide.2; omega)
theorem ZdU (a b : Nat) : (((a : Nat) : Int) == ((b : Nat) : Int)) = (a == b) := by
 rw [Bool.eq_iff_iff]; simp; omega
theorem ZBT (c : UInt8) : Zef ((c.toNat : Nat) : Int) = some (Zig c || Zhw c) := by
 unfold Zef
 rw [ZCG, Zn]
 unfold Zhw
 congr 3 <;> (apply decide_eq_decide.2; omega)
theorem ZBZ (c : UInt8) : ZcW ((c.toNat : Nat) : Int) = some (Zhw c || c.toNat == 95) := by
 unfold ZcW Zhw
 rw [show (95 : Int) = ((95 : Nat) : Int) from rfl, ZdU]
 congr 3 <;> (apply decide_eq_decide.2; omega)
theorem Zjc {l : List UInt8} {k : Nat} {y : UInt8} (h : l[k]? = some y) : l.drop k = y :: l.drop (k + 1) := by
 obtain ⟨h1, h2⟩ := List.getElem?_eq_some_iff.1 h
 rw [List.drop_eq_getElem_cons h1, h2]
theorem ZAw (s : ByteArray) (hs : s.size ≤ 1000000) : ∀ (d k : Nat), s.size - k = d → Zdk s k = some ((s.data.toList.drop k).all wch) := by
 intro d
 induction d with
 | zero =>
  intro k hk
  rw [Zdk, if_neg (by simp; omega), List.drop_eq_nil_of_le (by rw [sz]; omega)]; rfl
 | succ d ih =>
  intro k hk
  have hlt : k < s.size := by omega
  obtain ⟨y, hy⟩ : ∃ y, s.data.toList[k]? = some y := ⟨_, List.getElem?_eq_getElem (by rw [sz]; exact hlt)⟩
  rw [Zdk, if_pos (by simpa using hlt), ZeB, hy, Zn, ZBT, Zn, ZEY, Zjc hy, List.all_cons]
  have h1 : (if (!(Zig y || Zhw y)) = true then some (ZgS y) >>= fun r35 => some (!r35) else some false) = some (!(Zig y || Zhw y) && !(ZgS y)) := by
   cases (Zig y || Zhw y) <;> rfl
  rw [h1, Zn]
  have h2 : ((((!(Zig y || Zhw y) && !(ZgS y)) && (((y.toNat : Nat) : Int) != 95)) && (((y.toNat : Nat) : Int) != 39)) = true) ↔ wch y = false := by
   unfold wch wst
   rw [show (((y.toNat : Nat) : Int) != 95) = !(y.toNat == 95) from by rw [bne, show (95 : Int) = ((95 : Nat) : Int) from rfl, ZdU], show (((y.toNat : Nat) : Int) != 39) = !(y.toNat == 39) from by rw [bne, show (39 : Int) = ((39 : Nat) : Int) from rfl, ZdU]]
   cases Zig y <;> cases Zhw y <;> cases ZgS y <;> cases (y.toNat == 95) <;> cases (y.toNat == 39) <;> simp
  by_cases hw : wch y = false
  ·rw [if_pos (h2.2 hw), hw]; rfl
  ·rw [if_neg (fun h => hw (h2.1 h)), Zdd _ (by omega), ih (k + 1) (by omega)]
   simp only [Bool.not_eq_false] at hw
   rw [hw]; rfl
def Zh1 (l : List UInt8) : Bool := match l with
 | [] => false
 | c :: r => decide (r.length < 64) && wst c && l.all wch
theorem Zil (c : UInt8) (r : List UInt8) : Zh1 (c :: r) = (decide (r.length < 64) && wst c && (c :: r).all wch) := rfl
theorem Znk (s : ByteArray) : (s.toList == (ByteArray.mk #[]).toList) = decide (s.size = 0) := by
 rw [Bool.eq_iff_iff]
 rw [beq_iff_eq, Za0, Za0, decide_eq_true_iff, ← sz]
 constructor
 ·intro h; rw [h]; rfl
 ·intro h; exact List.eq_nil_of_length_eq_zero h
theorem Zvn (s : ByteArray) : Zer s = some (Zh1 s.data.toList) := by
 unfold Zer
 rw [Znk]
 cases hl : s.data.toList with
 | nil =>
  have h0 : s.size = 0 := by rw [← sz, hl]; rfl
  rw [if_pos (by simp [h0])]; rfl
 | cons c r =>
  have h0 : s.size = r.length + 1 := by rw [← sz, hl]; rfl
  by_cases h64 : s.size > 64
  ·rw [if_pos (by simp; omega), Zn, if_pos rfl]
   rw [Zil, show decide (r.length < 64) = false from decide_eq_false (by omega)]; rfl
  ·have hc : ¬ ((decide (s.size = 0) || decide (((s.size : Nat) : Int) > 64)) = true) := by rw [Bool.or_eq_true, decide_eq_true_iff, decide_eq_true_iff]; omega
   rw [if_neg hc]
   have hb : btI s 0 = some c := by have := ZeB s 0; rw [hl] at this; exact this
   rw [hb]
   simp only [Zn, ZBT]
   rw [show (((c.toNat : Nat) : Int) != 95) = !(c.toNat == 95) from by rw [bne, show (95 : Int) = ((95 : Nat) : Int) from rfl, ZdU]]
   rw [Zil, show decide (r.length < 64) = true from decide_eq_true (by omega)]
   cases hw : wst c with
   | false =>
    unfold wst at hw
    cases h1 : (Zig c || Zhw c) <;> rw [h1] at hw <;> simp_all
   | true =>
    have : (if (!(Zig c || Zhw c)) = true then some (!(c.toNat == 95)) else some false) = some false := by
     unfold wst at hw
     cases h1 : (Zig c || Zhw c) <;> rw [h1] at hw <;> simp_all
    rw [this, Zn, Zn, if_neg (by simp)]
    rw [ZAw s (by omega) _ 0 rfl, List.drop_zero, hl]; rfl
theorem Zhi {s : ByteArray} (h : Zh1 s.data.toList = true) : 0 < s.size ∧ s.size ≤ 64 := by
 rw [← sz]
 cases hl : s.data.toList with
 | nil => rw [hl] at h; cases h
 | cons c r =>
  rw [hl, Zil, Bool.and_eq_true, Bool.and_eq_true, decide_eq_true_iff] at h
  simp only [List.length_cons]; omega
theorem ZAX (s : ByteArray) (hs : s.size ≤ 1000000) : ∀ (d k : Nat), s.size - k = d → Zbz s k = some ((s.data.toList.drop k).all wch) := by
 intro d
 induction d with
 | zero =>
  intro k hk
  rw [Zbz, if_neg (by simp; omega), List.drop_eq_nil_of_le (by rw [sz]; omega)]; rfl
 | succ d ih =>
  intro k hk
  have hlt : k < s.size := by omega
  obtain ⟨y, hy⟩ : ∃ y, s.data.toList[k]? = some y := ⟨_, List.getElem?_eq_getElem (by rw [sz]; exact hlt)⟩
  rw [Zbz, if_pos (by simpa using hlt), ZeB, hy]
  simp only [Zn, ZBZ, ZDL, ZBV, Zjc hy, List.all_cons]
  rw [show (((y.toNat : Nat) : Int) != 39) = !(y.toNat == 39) from by rw [bne, show (39 : Int) = ((39 : Nat) : Int) from rfl, ZdU]]
  have h1 : ((if (!(Zhw y || y.toNat == 95)) = true then some (!Zig y) else some false) >>= fun c51 =>
    (if c51 = true then some (!ZgS y) else some false) >>= fun c54 => (if c54 = true then some (!(y.toNat == 39)) else some false)) = some (!wch y) := by
   unfold wch wst
   cases Zig y <;> cases Zhw y <;> cases ZgS y <;> cases (y.toNat == 95) <;> cases (y.toNat == 39) <;> rfl
  have h2 : ∀ (f : Bool → Option Bool), ((if (!(Zhw y || y.toNat == 95)) = true then some (!Zig y) else some false) >>= fun c51 =>
    (if c51 = true then some (!ZgS y) else some false) >>= fun c54 => (if c54 = true then some (!(y.toNat == 39)) else some false) >>= f) = f (!wch y) := fun f => by
   unfold wch wst
   cases Zig y <;> cases Zhw y <;> cases ZgS y <;> cases (y.toNat == 95) <;> cases (y.toNat == 39) <;> rfl
  rw [h2]
  cases hw : wch y with
  | false => rfl
  | true =>
   simp only [Bool.not_true, Bool.false_eq_true, if_false, Bool.true_and]
   rw [Zdd _ (by omega), ih (k + 1) (by omega)]
theorem ZCk (s : ByteArray) : ZdK s = some (Zh1 s.data.toList) := by
 unfold ZdK
 cases hl : s.data.toList with
 | nil =>
  have h0 : s.size = 0 := by rw [← sz, hl]; rfl
  rw [if_pos (by simp [h0])]; rfl
 | cons c r =>
  have h0 : s.size = r.length + 1 := by rw [← sz, hl]; rfl
  by_cases h64 : s.size > 64
  ·rw [if_pos (by simp; omega), Zn, if_pos rfl]
   rw [Zil, show decide (r.length < 64) = false from decide_eq_false (by omega)]; rfl
  ·rw [if_neg (by simp; omega)]
   have hb : btI s 0 = some c := by have := ZeB s 0; rw [hl] at this; exact this
   rw [hb]
   simp only [Zn, ZBZ, ZDL]
   rw [Zil, show decide (r.length < 64) = true from decide_eq_true (by omega)]
   have h2 : ((if (!(Zhw c || c.toNat == 95)) = true then some (!Zig c) else some false) >>= fun c12 => some c12) = some (!wst c) := by
    unfold wst
    cases Zig c <;> cases Zhw c <;> cases (c.toNat == 95) <;> rfl
   rw [h2, Zn]
   cases hw : wst c with
   | false => rfl
   | true =>
    simp only [Bool.not_true, Bool.false_eq_true, if_false]
    rw [ZAX s (by omega) _ 0 rfl, List.drop_zero, hl]; rfl
theorem ZoH : ∀ (l : List UInt8) (c : UInt8), decide (Lib.indexByte l c ≥ 0) = l.contains c ∧ -1 ≤ Lib.indexByte l c
 | [], c => by simp [Lib.indexByte]
 | b :: l, c => by
  obtain ⟨h1, h2⟩ := ZoH l c
  unfold Lib.indexByte
  by_cases hb : b == c
  ·rw [if_pos hb]
   have : c = b := (beq_iff_eq.1 hb).symm
   subst this
   simp
  ·rw [if_neg hb]
   have hc : ¬ c = b := fun e => hb (by simp [e])
   have hcon : (b :: l).contains c = l.contains c := by simp [hc]
   rw [hcon, ← h1]
   split
   ·rename_i h3
    have : Lib.indexByte l c = -1 := by simpa using h3
    rw [this]; simp
   ·rename_i h3
    have h4 : ¬ Lib.indexByte l c = -1 := by simpa using h3
    constructor
    ·apply decide_eq_decide.2; omega
    ·omega
theorem ZDR (c : UInt8) : ZdY ((c.toNat : Nat) : Int) = some (Zt4 c) := by
 unfold ZdY strings_IndexByte
 rw [Zn]
 have h1 : ((c.toNat : Nat) : Int).toNat.toUInt8 = c := by rw [Int.toNat_natCast]; simp
 rw [h1, (ZoH _ c).1]
 rfl
theorem ZyA (c : Int) (i_4 : Nat) : Zaa c i_4 = if (decide (((i_4 : Nat) : Int) < (((ByteArray.mk #[33, 35, 36, 37, 38, 42, 43, 46, 47, 60, 61, 62, 63, 64, 92, 94, 124, 45, 126, 58]).size : Nat) : Int))) = true then
  (btI (ByteArray.mk #[33, 35, 36, 37, 38, 42, 43, 46, 47, 60, 61, 62, 63, 64, 92, 94, 124, 45, 126, 58]) ((i_4 : Nat) : Int)) >>= fun y12 =>
  if (((y12.toNat : Nat) : Int) == c) = true then some true
  else Z4 (i_4 + 1 ≤ 9223372036854775807) >>= fun _ => Zaa c (i_4 + 1)
  else some false := by
 delta Zaa
 exact congrFun (Lean.Order.fix_eq _) i_4
theorem Zun (c : UInt8) (k : Nat) : Zaa ((c.toNat : Nat) : Int) k = if k < 20 then (Zu2[k]? >>= fun y => if y.toNat == c.toNat then some true else (Z4 (k + 1 ≤ 9223372036854775807) >>= fun _ => Zaa ((c.toNat : Nat) : Int) (k + 1))) else some false := by
 have hs : (ByteArray.mk #[33, 35, 36, 37, 38, 42, 43, 46, 47, 60, 61, 62, 63, 64, 92, 94, 124, 45, 126, 58]).size = 20 := rfl
 have hl : (ByteArray.mk #[33, 35, 36, 37, 38, 42, 43, 46, 47, 60, 61, 62, 63, 64, 92, 94, 124, 45, 126, 58]).data.toList = Zu2 := rfl
 have hb := ZeB (ByteArray.mk #[33, 35, 36, 37, 38, 42, 43, 46, 47, 60, 61, 62, 63, 64, 92, 94, 124, 45, 126, 58]) k
 rw [hl] at hb
 rw [ZyA, hb, hs]
 generalize Zu2[k]? = o
 by_cases h : k < 20
 ·rw [if_pos h, if_pos (decide_eq_true (by omega))]
  cases o with
  | none => rfl
  | some y => simp only [Zn, ZdU]
 ·rw [if_neg h, if_neg (by rw [decide_eq_true_iff]; omega)]
theorem Zuv : Zu2.length = 20 := rfl
theorem ZyG (c : UInt8) : ∀ (d k : Nat), 20 - k = d → Zaa ((c.toNat : Nat) : Int) k = some ((Zu2.drop k).contains c) := by
 intro d
 induction d with
 | zero =>
  intro k hk
  rw [Zun, if_neg (by omega), List.drop_eq_nil_of_le (by rw [Zuv]; omega)]; rfl
 | succ d ih =>
  intro k hk
  obtain ⟨y, hy⟩ : ∃ y, Zu2[k]? = some y := ⟨_, List.getElem?_eq_getElem (by rw [Zuv]; omega)⟩
  rw [Zun, if_pos (by omega), hy, Zn, Zjc hy]
  by_cases he : y = c
  ·subst he; simp
  ·have h1 : (y.toNat == c.toNat) = false := by simp; exact fun e => he (UInt8.toNat_inj.1 e)
   rw [h1, if_neg (by simp), Zdd _ (by omega), ih (k + 1) (by omega)]
   have h2 : ¬ c = y := fun e => he e.symm
   simp [h2]
theorem ZDa (c : UInt8) : ZcB ((c.toNat : Nat) : Int) = some (Zt4 c) := by
 unfold ZcB; rw [ZyG c _ 0 rfl]; rfl
def cnt (l : List UInt8) : Nat := (l.filter fun c => c.toNat == 45).length
theorem cnt_le (l : List UInt8) : cnt l ≤ l.length := List.length_filter_le _ _
theorem ZvL (s : ByteArray) (hs : s.size ≤ 1000000) : ∀ (d k m : Nat), s.size - k = d → k ≤ s.size → m ≤ k → Zb4 s m k =
  some ((s.data.toList.drop k).all Zt4 && (decide (s.size = 1) || decide (m + cnt (s.data.toList.drop k) < s.size))) := by
 intro d
 induction d with
 | zero =>
  intro k m hk hle hm
  have : k = s.size := by omega
  subst this
  rw [Zb4, if_pos (by simp), List.drop_eq_nil_of_le (by rw [sz]; omega)]
  have e1 : (((s.size : Nat) : Int) == 1) = decide (s.size = 1) := by rw [show (1 : Int) = ((1 : Nat) : Int) from rfl, ZdU, Bool.eq_iff_iff, beq_iff_eq, decide_eq_true_iff]
  rw [e1]
  have e2 : decide (((m : Nat) : Int) < ((s.size : Nat) : Int)) = decide (m + cnt ([] : List UInt8) < s.size) := decide_eq_decide.2 (by show _ ↔ m + 0 < s.size; omega)
  rw [e2]; rfl
 | succ d ih =>
  intro k m hk hle hm
  have hlt : k < s.size := by omega
  obtain ⟨y, hy⟩ : ∃ y, s.data.toList[k]? = some y := ⟨_, List.getElem?_eq_getElem (by rw [sz]; exact hlt)⟩
  have hne : ¬ ((((k : Nat) : Int) == ((s.size : Nat) : Int)) = true) := by rw [ZdU, beq_iff_eq]; omega
  rw [Zb4, if_neg hne, ZeB, hy]
  simp only [Zn, ZDR, Zjc hy, List.all_cons]
  cases hc : Zt4 y with
  | false => rfl
  | true =>
   rw [show (45 : Int) = ((45 : Nat) : Int) from rfl, ZdU]
   simp only [Bool.not_true, Bool.false_eq_true, if_false, Bool.true_and]
   cases h45 : (y.toNat == 45) with
   | true =>
    rw [if_pos rfl, Zdd _ (by omega), Zdd _ (by omega), ih (k + 1) (m + 1) (by omega) (by omega) (by omega)]
    have : cnt (y :: s.data.toList.drop (k + 1)) = cnt (s.data.toList.drop (k + 1)) + 1 := by unfold cnt; rw [List.filter_cons, if_pos h45]; rfl
    rw [this, show m + (cnt (s.data.toList.drop (k + 1)) + 1) = m + 1 + cnt (s.data.toList.drop (k + 1)) from by omega]
   | false =>
    rw [if_neg (by simp), Zdd _ (by omega), ih (k + 1) m (by omega) (by omega) (by omega)]
    have : cnt (y :: s.data.toList.drop (k + 1)) = cnt (s.data.toList.drop (k + 1)) := by unfold cnt; rw [List.filter_cons, if_neg (by rw [h45]; simp)]
    rw [this]
theorem Zv3 (s : ByteArray) (hs : s.size ≤ 1000000) : ∀ (d k m : Nat), s.size - k = d → k ≤ s.size → m ≤ k → ZaJ s m k =
  some ((s.data.toList.drop k).all Zt4 && (decide (s.size = 1) || decide (m + cnt (s.data.toList.drop k) < s.size))) := by
 intro d
 induction d with
 | zero =>
  intro k m hk hle hm
  have : k = s.size := by omega
  subst this
  rw [ZaJ, if_neg (by rw [decide_eq_true_iff]; omega), List.drop_eq_nil_of_le (by rw [sz]; omega)]
  have e1 : (((s.size : Nat) : Int) == 1) = decide (s.size = 1) := by rw [show (1 : Int) = ((1 : Nat) : Int) from rfl, ZdU, Bool.eq_iff_iff, beq_iff_eq, decide_eq_true_iff]
  rw [e1]
  have e2 : decide (((m : Nat) : Int) < ((s.size : Nat) : Int)) = decide (m + cnt ([] : List UInt8) < s.size) := decide_eq_decide.2 (by show _ ↔ m + 0 < s.size; omega)
  rw [e2, Bool.or_comm]; rfl
 | succ d ih =>
  intro k m hk hle hm
  have hlt : k < s.size := by omega
  obtain ⟨y, hy⟩ : ∃ y, s.data.toList[k]? = some y := ⟨_, List.getElem?_eq_getElem (by rw [sz]; exact hlt)⟩
  rw [ZaJ, if_pos (by rw [decide_eq_true_iff]; omega), ZeB, hy]
  simp only [Zn, ZDa, Zjc hy, List.all_cons]
  cases hc : Zt4 y with
  | false => rfl
  | true =>
   rw [show (45 : Int) = ((45 : Nat) : Int) from rfl, ZdU]
   simp only [Bool.not_true, Bool.false_eq_true, if_false, Bool.true_and]
   cases h45 : (y.toNat == 45) with
   | true =>
    rw [if_pos rfl, Zdd _ (by omega), Zdd _ (by omega), ih (k + 1) (m + 1) (by omega) (by omega) (by omega)]
    have : cnt (y :: s.data.toList.drop (k + 1)) = cnt (s.data.toList.drop (k + 1)) + 1 := by unfold cnt; rw [List.filter_cons, if_pos h45]; rfl
    rw [this, show m + (cnt (s.data.toList.drop (k + 1)) + 1) = m + 1 + cnt (s.data.toList.drop (k + 1)) from by omega]
   | false =>
    rw [if_neg (by simp), Zdd _ (by omega), ih (k + 1) m (by omega) (by omega) (by omega)]
    have : cnt (y :: s.data.toList.drop (k + 1)) = cnt (s.data.toList.drop (k + 1)) := by unfold cnt; rw [List.filter_cons, if_neg (by rw [h45]; simp)]
    rw [this]
def ZeW (l : List UInt8) : Bool := decide (0 < l.length) && decide (l.length ≤ 64) && l.all Zt4 && (decide (l.length = 1) || decide (cnt l < l.length))
theorem Zry (s : ByteArray) : ZdV s = some (ZeW s.data.toList) := by
 unfold ZdV ZeW
 rw [Znk, sz]
 by_cases hc : (decide (s.size = 0) || decide (((s.size : Nat) : Int) > 64)) = true
 ·rw [if_pos hc]
  rw [Bool.or_eq_true, decide_eq_true_iff, decide_eq_true_iff] at hc
  rcases hc with hc | hc
  ·rw [show decide (0 < s.size) = false from decide_eq_false (by omega)]; rfl
  ·rw [show decide (s.size ≤ 64) = false from decide_eq_false (by omega), Bool.and_false]; rfl
 ·rw [if_neg hc]
  rw [Bool.or_eq_true, decide_eq_true_iff, decide_eq_true_iff] at hc
  rw [ZvL s (by omega) _ 0 0 rfl (by omega) (by omega), List.drop_zero, show decide (0 < s.size) = true from decide_eq_true (by omega), show decide (s.size ≤ 64) = true from decide_eq_true (by omega), Nat.zero_add]; rfl
theorem Zzi (s : ByteArray) : Zde s = some (ZeW s.data.toList) := by
 unfold Zde ZeW
 rw [sz]
 by_cases hc : (decide (((s.size : Nat) : Int) < 1) || decide (((s.size : Nat) : Int) > 64)) = true
 ·rw [if_pos hc]
  rw [Bool.or_eq_true, decide_eq_true_iff, decide_eq_true_iff] at hc
  rcases hc with hc | hc
  ·rw [show decide (0 < s.size) = false from decide_eq_false (by omega)]; rfl
  ·rw [show decide (s.size ≤ 64) = false from decide_eq_false (by omega), Bool.and_false]; rfl
 ·rw [if_neg hc]
  rw [Bool.or_eq_true, decide_eq_true_iff, decide_eq_true_iff] at hc
  rw [Zv3 s (by omega) _ 0 0 rfl (by omega) (by omega), List.drop_zero, show decide (0 < s.size) = true from decide_eq_true (by omega), show decide (s.size ≤ 64) = true from decide_eq_true (by omega), Nat.zero_add]; rfl

def ZdE : List (List UInt8) := [[97, 115], [99, 97, 115, 101], [99, 108, 97, 115, 115], [100, 97, 116, 97], [100, 101, 114, 105, 118, 105, 110, 103], [100, 111], [101, 108, 115, 101], [104, 105, 100, 105, 110, 103], [105, 102], [105, 109, 112, 111, 114, 116], [105, 110], [105, 110, 102, 105, 120], [105, 110, 102, 105, 120, 108], [105, 110, 102, 105, 120, 114], [105, 110, 115, 116, 97, 110, 99, 101], [108, 101, 116], [109, 111, 100, 117, 108, 101], [111, 102], [113, 117, 97, 108, 105, 102, 105, 101, 100], [116, 104, 101, 110], [119, 104, 101, 114, 101], [95]]
def Zfv : List (List UInt8) := [[46, 46], [58, 58], [61], [92], [124], [60, 45], [45, 62], [64], [126], [61, 62]]
def Zwj (l : List UInt8) : List (List UInt8) → Option Bool
 | [] => some false
 | w :: ws => if (l == w) = true then some true else Zwj l ws
theorem Zmm (l : List UInt8) : ∀ ws, Zwj l ws = some (ws.contains l)
 | [] => rfl
 | w :: ws => by
  unfold Zwj
  rw [Zmm l ws, List.contains_cons]
  cases (l == w) <;> rfl
theorem Zlx (c : Bool) (x : Option Bool) : (if c = true then some c else x) = (if c = true then some true else x) := by cases c <;> rfl
theorem ZAa (c : Bool) (x y z : Option Bool) : (if c = true then (if c = true then x else y) else z) = (if c = true then x else z) := by cases c <;> rfl
theorem Zqo (c : Bool) : some c = (if c = true then some true else some false) := by cases c <;> rfl
theorem nk1 (x : Bool) : Zv x = some x := by cases x <;> rfl
theorem rk2 (x : Bool) : ZR x = some x := by cases x <;> rfl
theorem nsk (x : Bool) : ZT x = some x := by cases x <;> rfl
theorem rsk (x : Bool) : ZC x = some x := by cases x <;> rfl
theorem ZBO (s : ByteArray) : Zcl s = some (ZdE.contains s.data.toList) := by
 rw [← Zmm]
 unfold Zcl
 simp only [nk1, Zlx, Za0]
 rw [Zqo (s.data.toList == _)]
 rfl
theorem ZEX (s : ByteArray) : Zcz s = some (ZdE.contains s.data.toList) := by
 rw [← Zmm]
 unfold Zcz ZQ
 simp only [rk2, ZAa, Zlx, Za0]
 rw [Zqo (s.data.toList == _)]
 rfl
theorem Zz6 (s : ByteArray) : ZbN s = some (Zfv.contains s.data.toList) := by
 rw [← Zmm]
 unfold ZbN
 simp only [nsk, Zlx, Za0]
 rw [Zqo (s.data.toList == _)]
 rfl
theorem ZCp (s : ByteArray) : Zba s = some (Zfv.contains s.data.toList) := by
 rw [← Zmm]
 unfold Zba
 simp only [rsk, Zlx, Za0]
 rw [Zqo (s.data.toList == _)]
 rfl
theorem Zzw {l : List UInt8} (h : ZdE.contains l = true) : Zh1 l = true := by
 have h := List.contains_iff_mem.1 h
 have key : ∀ w ∈ ZdE, Zh1 w = true := by decide
 exact key l h
theorem ZpR {l : List UInt8} (h : Zfv.contains l = true) : ZeW l = true := by
 have h := List.contains_iff_mem.1 h
 have key : ∀ w ∈ Zfv, ZeW w = true := by decide
 exact key l h
theorem ZtK : ∀ c : UInt8, Zt4 c = true → wst c = false := by
 intro c h
 have h := List.contains_iff_mem.1 h
 have key : ∀ w ∈ Zu2, wst w = false := by decide
 exact key c h
theorem ZiQ {l : List UInt8} (h : Zh1 l = true) : ZeW l = false := by
 cases l with
 | nil => cases h
 | cons c r =>
  rw [Zil, Bool.and_eq_true, Bool.and_eq_true] at h
  cases hs : Zt4 c with
  | true => have := ZtK c hs; rw [h.1.2] at this; cases this
  | false => unfold ZeW; rw [List.all_cons, hs]; simp
def ZiK (l : List UInt8) : Bool := match l with | [] => false | c :: _ => Zig c
def Zqs (l : List UInt8) : Bool := match l with | [] => false | c :: _ => c.toNat == 58
def ZdN (l : List UInt8) : Int :=
 if Zh1 l = true then (if ZdE.contains l = true then 5 else if ZiK l = true then 2 else 1)
 else if ZeW l = true then (if Zfv.contains l = true then 6 else if Zqs l = true then 4 else 3) else 0
theorem Zoz {s : ByteArray} (h : 0 < s.size) : ∃ c r, s.data.toList = c :: r ∧ btI s 0 = some c := by
 cases hl : s.data.toList with
 | nil => rw [← sz, hl] at h; cases h
 | cons c r => exact ⟨c, r, rfl, by have := ZeB s 0; rw [hl] at this; exact this⟩
theorem Zmx {s : ByteArray} (h : ZeW s.data.toList = true) : 0 < s.size ∧ s.size ≤ 64 := by
 unfold ZeW at h
 simp only [Bool.and_eq_true, decide_eq_true_iff, sz] at h
 omega
theorem ZmP (s : ByteArray) : Zbu s = some (ZdN s.data.toList) := by
 unfold Zbu ZdN
 rw [ZCk, Zn]
 cases hw : Zh1 s.data.toList with
 | true =>
  obtain ⟨c, r, hl, hb⟩ := Zoz (Zhi hw).1
  rw [if_pos rfl, if_pos rfl, ZEX, Zn]
  cases ZdE.contains s.data.toList with
  | true => rfl
  | false =>
   rw [if_neg (by simp), if_neg (by simp), hb, Zn, ZDL, Zn, hl]
   show _ = some (if Zig c = true then 2 else 1)
   cases Zig c <;> rfl
 | false =>
  rw [if_neg (by simp), if_neg (by simp), Zzi, Zn]
  cases hs : ZeW s.data.toList with
  | true =>
   obtain ⟨c, r, hl, hb⟩ := Zoz (Zmx hs).1
   rw [if_pos rfl, if_pos rfl, ZCp, Zn]
   cases Zfv.contains s.data.toList with
   | true => rfl
   | false =>
    rw [if_neg (by simp), if_neg (by simp), hb, Zn, show (58 : Int) = ((58 : Nat) : Int) from rfl, ZdU, hl]
    show _ = some (if (c.toNat == 58) = true then 4 else 3)
    cases (c.toNat == 58) <;> rfl
  | false => rfl
def Zh6 (l : List UInt8) : Bool := (Zh1 l && !ZdE.contains l) || (ZeW l && !Zfv.contains l)
theorem Zvg (l : List UInt8) : ((((ZdN l == 1) || (ZdN l == 2)) || (ZdN l == 3)) || (ZdN l == 4)) = Zh6 l := by
 unfold ZdN Zh6
 cases hw : Zh1 l with
 | true => rw [ZiQ hw]; cases ZdE.contains l <;> cases ZiK l <;> rfl
 | false => cases ZeW l <;> cases Zfv.contains l <;> cases Zqs l <;> rfl
theorem Zxf (s : ByteArray) : Zc0 s = some (Zh6 s.data.toList) := by
 unfold Zc0; rw [ZmP, Zn, Zvg]
theorem Zvf (s : ByteArray) : Zej s = some (Zh6 s.data.toList) := by
 unfold Zej Zh6
 rw [Zvn, Zn]
 cases hw : Zh1 s.data.toList with
 | true =>
  rw [ZBO, Zry, ZiQ hw]
  cases ZdE.contains s.data.toList <;> rfl
 | false =>
  rw [Zry]
  cases ZeW s.data.toList with
  | true => rw [Zz6]; cases Zfv.contains s.data.toList <;> rfl
  | false => rfl
theorem Zx5 (l : List UInt8) : (ZdN l != 2) = !(Zh1 l && ZiK l && !ZdE.contains l) := by
 unfold ZdN
 cases Zh1 l <;> cases ZdE.contains l <;> cases ZiK l <;> cases ZeW l <;> cases Zfv.contains l <;> cases Zqs l <;> rfl
theorem ZBF {l : List UInt8} (h : ZiK l = true) : ZdE.contains l = false := by
 cases hr : ZdE.contains l with
 | false => rfl
 | true =>
  have hm := List.contains_iff_mem.1 hr
  have key : ∀ w ∈ ZdE, ZiK w = false := by decide
  rw [key l hm] at h; cases h

def mkB (l : List UInt8) : ByteArray := ⟨l.toArray⟩
theorem Zew (l : List UInt8) : (mkB l).data.toList = l := by simp [mkB]
theorem mkB_self (s : ByteArray) : mkB s.data.toList = s := ZfB (Zew _)
theorem ZkY (l : List UInt8) : (mkB l).size = l.length := by rw [← sz, Zew]
theorem Zm5 (a b : ByteArray) : (a ++ b).data.toList = a.data.toList ++ b.data.toList := by simp
def okJ (m n : List UInt8) : Bool := Zh1 m && ZiK m && Zh6 n
theorem Zrv {s : ByteArray} (h : Zh6 s.data.toList = true) : 0 < s.size ∧ s.size ≤ 64 := by
 unfold Zh6 at h
 rw [Bool.or_eq_true, Bool.and_eq_true, Bool.and_eq_true] at h
 rcases h with h | h
 ·exact Zhi h.1
 ·exact Zmx h.1
def Zsw (m n : ByteArray) : ByteArray := if okJ m.data.toList n.data.toList = true then (m ++ ByteArray.mk #[46]) ++ n else ByteArray.mk #[]
theorem Zpr : IntKind.i64.max = 9223372036854775807 := rfl
theorem Zro (a b : ByteArray) : (a ++ b).size = a.size + b.size := by rw [← sz, Zm5, List.length_append, sz, sz]
theorem orT {α : Type} (Y : Option Bool) (G : Bool → Option α) : ((if true = true then some true else Y) >>= G) = G true := rfl
theorem orF {α : Type} (Y : Option Bool) (G : Bool → Option α) : ((if false = true then some true else Y) >>= G) = (Y >>= G) := rfl
theorem Zzm {α : Type} (Y : Option Bool) (G : Bool → Option α) : ((if true = true then Y else some false) >>= G) = (Y >>= G) := rfl
theorem ZDW {α : Type} (Y : Option Bool) (G : Bool → Option α) : ((if false = true then Y else some false) >>= G) = G false := rfl
theorem ifT {α : Type} (a b : α) : (if true = true then a else b) = a := rfl
theorem ifF {α : Type} (a b : α) : (if false = true then a else b) = b := rfl
theorem ZAx {m n : ByteArray} (hm : m.size ≤ 64) (hn : n.size ≤ 64) : (Z4 (((m.size + (ByteArray.mk #[46]).size : Nat) : Int) ≤ IntKind.i64.max) >>= fun _ =>
  Z4 ((((m ++ (ByteArray.mk #[46])).size + n.size : Nat) : Int) ≤ IntKind.i64.max) >>= fun _ => some ((m ++ (ByteArray.mk #[46])) ++ n)) = some ((m ++ (ByteArray.mk #[46])) ++ n) := by
 have e : (ByteArray.mk #[46]).size = 1 := rfl
 have h1 : ((m.size + (ByteArray.mk #[46]).size : Nat) : Int) ≤ IntKind.i64.max := by rw [Zpr, e]; omega
 have h2 : (((m ++ (ByteArray.mk #[46])).size + n.size : Nat) : Int) ≤ IntKind.i64.max := by rw [Zpr, Zro, e]; omega
 rw [Zdd _ h1, Zdd _ h2]
theorem ZDn (m n : ByteArray) : ZfS m n = some (Zsw m n) := by
 unfold ZfS Zsw okJ
 rw [Zvn, Zn]
 cases hw : Zh1 m.data.toList with
 | false => rw [Bool.not_false, orT, orT, Bool.false_and, Bool.false_and, ifT, ifF]
 | true =>
  obtain ⟨c, r, hl, hb⟩ := Zoz (Zhi hw).1
  have h64 := Zhi hw
  have hu : ZiK m.data.toList = Zig c := by rw [hl]; rfl
  rw [Bool.not_true, orF, hb, Zn, ZCG, Zn, Zn, hu]
  cases Zig c with
  | false => rw [Bool.not_false, orT, Bool.and_false, Bool.false_and, ifT, ifF]
  | true =>
   rw [Bool.not_true, orF, Zvf, Zn, Zn]
   cases hn : Zh6 n.data.toList with
   | false => rw [Bool.not_false, ifT, Bool.and_false, ifF]
   | true =>
    have h65 := Zrv hn
    rw [Bool.not_true, ifF, Bool.and_true, Bool.and_true, ifT]
    exact ZAx h64.2 h65.2
theorem ZB7 (m n : ByteArray) : ZdJ m n = some (Zsw m n) := by
 unfold ZdJ Zsw okJ
 rw [ZmP, Zn, Zx5]
 cases hw : Zh1 m.data.toList with
 | false => rw [show (!(false && ZiK m.data.toList && !ZdE.contains m.data.toList)) = true from rfl, orT, show (false && ZiK m.data.toList && Zh6 n.data.toList) = false from rfl, ifT, ifF]
 | true =>
  have h64 := Zhi hw
  cases hu : ZiK m.data.toList with
  | false => rw [show (!(true && false && !ZdE.contains m.data.toList)) = true from rfl, orT, show (true && false && Zh6 n.data.toList) = false from rfl, ifT, ifF]
  | true =>
   rw [ZBF hu, Zxf, Bool.and_true, Bool.not_false, Bool.and_true, Bool.not_true, orF, Zn, Zn]
   cases hn : Zh6 n.data.toList with
   | false => rw [Bool.not_false, ifT, Bool.and_false, ifF]
   | true =>
    have h65 := Zrv hn
    rw [Bool.not_true, ifF, Bool.and_true, ifT]
    exact ZAx h64.2 h65.2
theorem ZuO (m n : ByteArray) : ((Zsw m n).toList == (ByteArray.mk #[]).toList) = !okJ m.data.toList n.data.toList := by
 rw [Znk]
 unfold Zsw
 cases okJ m.data.toList n.data.toList with
 | true =>
  have e : (ByteArray.mk #[46]).size = 1 := rfl
  rw [if_pos rfl]
  exact decide_eq_false (by rw [Zro, Zro, e]; omega)
 | false => rfl
def spl : List UInt8 → Option (List UInt8 × List UInt8)
 | [] => none
 | b :: l => if b.toNat = 46 then some ([], l) else (spl l).map fun p => (b :: p.1, p.2)
theorem ZBx : ∀ l : List UInt8, Lib.cut l [46] = match spl l with | some p => (p.1, p.2, true) | none => (l, [], false) := by
 have key : ∀ l : List UInt8, match spl l with | some p => 0 ≤ Lib.indexByte l 46 ∧ l.take (Lib.indexByte l 46).toNat = p.1 ∧ l.drop ((Lib.indexByte l 46).toNat + 1) = p.2 | none => Lib.indexByte l 46 = -1 := by
  intro l
  induction l with
  | nil => rfl
  | cons b l ih =>
   unfold spl Lib.indexByte
   by_cases hb : b.toNat = 46
   ·have : b = 46 := UInt8.toNat_inj.1 hb
    subst this
    simp
   ·have h2 : (b == 46) = false := by
     rw [beq_eq_false_iff_ne]; rintro rfl; exact hb rfl
    rw [if_neg hb, h2]
    simp only [Bool.false_eq_true, if_false]
    cases hs : spl l with
    | none => rw [hs] at ih; simp only at ih; simp [ih]
    | some p =>
     rw [hs] at ih
     simp only at ih
     obtain ⟨h3, h4, h5⟩ := ih
     have h6 : (Lib.indexByte l 46 == -1) = false := by rw [beq_eq_false_iff_ne]; omega
     simp only [Option.map_some, h6, Bool.false_eq_true, if_false]
     have h7 : (Lib.indexByte l 46 + 1).toNat = (Lib.indexByte l 46).toNat + 1 := by omega
     rw [h7, List.take_succ_cons, List.drop_succ_cons, h4, h5]
     exact ⟨by omega, rfl, rfl⟩
 intro l
 have h := key l
 unfold Lib.cut
 rw [Lib.index_one]
 cases hs : spl l with
 | none => rw [hs] at h; simp only at h; rw [h]; rfl
 | some p =>
  rw [hs] at h
  simp only at h
  rw [if_pos h.1, h.2.1]
  show (_, l.drop (_ + 1), true) = _
  rw [h.2.2]
def Zij (s : ByteArray) : ByteArray × ByteArray × Bool :=
 match spl s.data.toList with
 | some p => if okJ p.1 p.2 = true then (mkB p.1, mkB p.2, true) else (ByteArray.mk #[], ByteArray.mk #[], false)
 | none => (ByteArray.mk #[], ByteArray.mk #[], false)
theorem ZwQ (s : ByteArray) (hs : s.size ≤ 1000000000) : ZeQ s = some (Zij s) := by
 unfold ZeQ strings_Cut
 rw [Zdd _ (by omega), Zn]
 have hc : ZDs s (ByteArray.mk #[46]) = match spl s.data.toList with | some p => (mkB p.1, mkB p.2, true) | none => (mkB s.data.toList, mkB [], false) := by
  unfold ZDs
  have e : (ByteArray.mk #[46]).data.toList = [46] := rfl
  rw [e, ZBx]
  cases spl s.data.toList <;> rfl
 unfold Zij
 rw [hc]
 cases spl s.data.toList with
 | none => rw [Bool.not_false, orT, ifT]
 | some p =>
  simp only [Bool.not_true]
  rw [orF, ZDn, Zn, Zn, ZuO, Zew, Zew]
  cases okJ p.1 p.2 with
  | true => rw [Bool.not_true, ifF, ifT]
  | false => rw [Bool.not_false, ifT, ifF]
theorem Zom (s : ByteArray) (a b : Nat) (h : a ≤ b) (hb : b ≤ s.size) : slS s ((a : Nat) : Int) ((b : Nat) : Int) = some (s.extract a b) := by
 unfold slS
 rw [if_pos (by omega), Int.toNat_natCast, Int.toNat_natCast]
theorem Zfp (s : ByteArray) (a b : Nat) : (s.extract a b).data.toList = (s.data.toList.drop a).take (b - a) := by
 rw [ByteArray.data_extract, Array.toList_extract, List.extract_eq_take_drop]
theorem ZyK {l : List UInt8} {k : Nat} {y : UInt8} (h : l[k]? = some y) : spl (l.drop k) = if y.toNat = 46 then some ([], l.drop (k + 1)) else (spl (l.drop (k + 1))).map fun p => (y :: p.1, p.2) := by
 rw [Zjc h, spl]
theorem Zyb (s : ByteArray) (hs : s.size ≤ 1000000000) : ∀ (d k : Nat), s.size - k = d → k ≤ s.size → Zbe s k = some (match spl (s.data.toList.drop k) with
  | some p => if okJ (s.data.toList.take k ++ p.1) p.2 = true then (mkB (s.data.toList.take k ++ p.1), mkB p.2, true) else (ByteArray.mk #[], ByteArray.mk #[], false)
  | none => (ByteArray.mk #[], ByteArray.mk #[], false)) := by
 intro d
 induction d with
 | zero =>
  intro k hk hle
  rw [Zbe, if_neg (by rw [decide_eq_true_iff]; omega), List.drop_eq_nil_of_le (by rw [sz]; omega)]; rfl
 | succ d ih =>
  intro k hk hle
  have hlt : k < s.size := by omega
  obtain ⟨y, hy⟩ : ∃ y, s.data.toList[k]? = some y := ⟨_, List.getElem?_eq_getElem (by rw [sz]; exact hlt)⟩
  rw [Zbe, if_pos (by rw [decide_eq_true_iff]; omega), ZeB, hy, Zn, ZyK hy, show (46 : Int) = ((46 : Nat) : Int) from rfl, bne, ZdU]
  by_cases h46 : y.toNat = 46
  ·have h1 : (y.toNat == 46) = true := by rw [beq_iff_eq]; exact h46
   have hz0 : (s.extract 0 k).data.toList = s.data.toList.take k := by rw [Zfp]; rfl
   have hz1 : (s.extract (k + 1) s.size).data.toList = s.data.toList.drop (k + 1) := by rw [Zfp]; exact List.take_of_length_le (by rw [List.length_drop, sz]; omega)
   have e1 : s.extract 0 k = mkB (s.data.toList.take k) := ZfB (by rw [hz0, Zew])
   have e2 : s.extract (k + 1) s.size = mkB (s.data.toList.drop (k + 1)) := ZfB (by rw [hz1, Zew])
   rw [h1, Bool.not_true, ifF, Zom s 0 k (by omega) (by omega), Zn, Zdd _ (by omega), Zdu (by omega), Zom s (k + 1) s.size (by omega) (by omega), Zn, ZB7, Zn, ZuO, hz0, hz1, if_pos h46, Zn, Zdd _ (by omega), Zn, e1, e2]
   simp only [List.append_nil]
   cases okJ (s.data.toList.take k) (s.data.toList.drop (k + 1)) with
   | true => rw [Bool.not_true, ifF, ifT]
   | false => rw [Bool.not_false, ifT, ifF]
  ·have h1 : (y.toNat == 46) = false := by rw [beq_eq_false_iff_ne]; exact h46
   rw [h1, Bool.not_false, ifT, Zdd _ (by omega), ih (k + 1) (by omega) (by omega), if_neg h46]
   have ht : s.data.toList.take (k + 1) = s.data.toList.take k ++ [y] := by rw [List.take_add_one, hy]; rfl
   cases spl (s.data.toList.drop (k + 1)) with
   | none => rfl
   | some p =>
    simp only [Option.map_some]
    rw [ht, List.append_assoc]; rfl
theorem Zxz (s : ByteArray) (hs : s.size ≤ 1000000000) : ZcX s = some (Zij s) := by
 unfold ZcX Zij
 rw [Zyb s hs _ 0 rfl (by omega)]; rfl
def ZlZ (s : ByteArray) : Bool := (Zij s).2.2 || Zh6 s.data.toList
theorem ZzB (s : ByteArray) (hs : s.size ≤ 1000000000) : ZeM s = some (ZlZ s) := by
 unfold ZeM ZlZ
 rw [ZwQ s hs, Zn]
 cases (Zij s).2.2 with
 | true => rfl
 | false => rw [orF, Zvf]; rfl
theorem ZAu (s : ByteArray) (hs : s.size ≤ 1000000000) : ZcT s = some (ZlZ s) := by
 unfold ZcT ZlZ
 rw [Zxz s hs, Zn]
 cases (Zij s).2.2 with
 | true => rfl
 | false => rw [orF, Zxf]; rfl

def ZmJ (b : UInt8) : Prop := 48 ≤ b.toNat ∧ b.toNat ≤ 57
theorem Zi6 {k : Nat} (h : k < 10) : (UInt8.ofNat (48 + k)).toNat = 48 + k := by
 rw [UInt8.toNat_ofNat']; omega
theorem Zqm : ∀ (n u : Nat), u ≤ n → ∀ b ∈ Lib.decDigits u, ZmJ b := by
 intro n
 induction n with
 | zero =>
  intro u hu b hb
  rw [Lib.decDigits, dif_pos (by omega)] at hb
  simp only [List.mem_singleton] at hb
  subst hb
  unfold ZmJ; rw [Zi6 (by omega)]; omega
 | succ n ih =>
  intro u hu b hb
  rw [Lib.decDigits] at hb
  split at hb
  ·simp only [List.mem_singleton] at hb
   subst hb
   unfold ZmJ; rw [Zi6 (by omega)]; omega
  ·rw [List.mem_append] at hb
   rcases hb with hb | hb
   ·exact ih (u / 10) (by omega) b hb
   ·simp only [List.mem_singleton] at hb
    subst hb
    unfold ZmJ; rw [Zi6 (by omega)]; omega
theorem Zts : ∀ (k u : Nat), u < 10 ^ (k + 1) → (Lib.decDigits u).length ≤ k + 1
 | 0, u, h => by rw [Lib.decDigits, dif_pos (by simpa using h)]; simp
 | k + 1, u, h => by
  rw [Lib.decDigits]
  split
  ·simp
  ·rw [List.length_append, List.length_singleton]
   have := Zts k (u / 10) (by rw [Nat.pow_succ] at h; omega)
   omega
theorem ZqD (u : Nat) : Lib.decDigits u ≠ [] := by
 rw [Lib.decDigits]; split <;> simp
theorem Zyo : ∀ (n u : Nat), u ≤ n → u < 18446744073709551616 → ∀ r : List UInt8, Lib.parseUint10 0 (Lib.decDigits u ++ r) = Lib.parseUint10 u r := by
 intro n
 induction n with
 | zero =>
  intro u hu _ r
  obtain rfl : u = 0 := by omega
  rw [Lib.decDigits, dif_pos (by omega)]
  simp only [List.cons_append, List.nil_append, Lib.parseUint10]
  rfl
 | succ n ih =>
  intro u hu hl r
  rw [Lib.decDigits]
  split
  ·rename_i h
   simp only [List.cons_append, List.nil_append, Lib.parseUint10, Zi6 h]
   rw [if_pos (by omega), if_neg (by omega), if_neg (by omega)]
   congr 1; omega
  ·rename_i h
   rw [List.append_assoc, ih (u / 10) (by omega) (by omega)]
   simp only [List.cons_append, List.nil_append, Lib.parseUint10, Zi6 (show u % 10 < 10 by omega)]
   rw [if_pos (by omega), if_neg (by omega), if_neg (by omega)]
   congr 1; omega
theorem ZwU {u : Nat} (h : u < 18446744073709551616) : Lib.parseMag (Lib.decDigits u) = .ok u := by
 unfold Lib.parseMag
 rw [if_neg (ZqD u)]
 have := Zyo u u (Nat.le_refl _) h []
 rw [List.append_nil] at this
 rw [this]; rfl
def ZlQ (n : Int) : Prop := -9223372036854775808 ≤ n ∧ n ≤ 9223372036854775807
theorem itoa_cons (n : Int) : ∃ b r, Lib.itoa n = b :: r ∧ (b.toNat = 45 ∨ ZmJ b) ∧ (∀ x ∈ r, ZmJ x) := by
 unfold Lib.itoa
 split
 ·exact ⟨45, _, rfl, .inl rfl, fun x hx => Zqm _ _ (Nat.le_refl _) x hx⟩
 ·cases h : Lib.decDigits n.toNat with
  | nil => exact absurd h (ZqD _)
  | cons b r =>
   have hd := Zqm _ n.toNat (Nat.le_refl _)
   rw [h] at hd
   exact ⟨b, r, rfl, .inr (hd b (by simp)), fun x hx => hd x (by simp [hx])⟩
theorem ZsY {n : Int} (h : ZlQ n) : Lib.atoiAll (Lib.itoa n) = .ok n := by
 unfold ZlQ at h
 unfold Lib.itoa
 by_cases hn : n < 0
 ·rw [if_pos hn]
  simp only [Lib.atoiAll]
  rw [if_pos (by decide), ZwU (by omega)]
  simp only
  rw [if_neg (by simp), if_neg (by simp; omega), if_pos (by decide)]
  congr 1; omega
 ·rw [if_neg hn]
  cases hd : Lib.decDigits n.toNat with
  | nil => exact absurd hd (ZqD _)
  | cons b r =>
   have hb : ZmJ b := Zqm _ n.toNat (Nat.le_refl _) b (by rw [hd]; simp)
   unfold ZmJ at hb
   have hm := ZwU (u := n.toNat) (by omega)
   rw [hd] at hm
   simp only [Lib.atoiAll]
   rw [if_neg (by omega), hm]
   simp only
   rw [if_neg (by omega), if_neg (by omega), if_neg (by omega)]
   congr 1; omega
theorem ZAs {n : Int} (h : ZlQ n) : (Lib.itoa n).length ≤ 21 := by
 unfold ZlQ at h
 unfold Lib.itoa
 have hp : (9223372036854775808 : Nat) < 10 ^ (19 + 1) := by decide
 split
 ·have := Zts 19 n.natAbs (by omega); simp; omega
 ·have := Zts 19 n.toNat (by omega); omega
theorem itoaB_list (n : Int) : (ZoL n).toList = Lib.itoa n := by rw [Za0]; rfl
theorem Zof (n : Int) : (ZoL n).data.toList = Lib.itoa n := rfl
theorem atoiR_itoa {n : Int} (h : ZlQ n) : ZsK (ZoL n) = (n, false) := by
 unfold ZsK; rw [Zof, ZsY h]
theorem ZqG {l : List UInt8} {v : Int} (h : Lib.atoiAll l = .ok v) : ZlQ v := by
 unfold ZlQ
 cases l with
 | nil => cases h
 | cons c r =>
  simp only [Lib.atoiAll] at h
  split at h
  ·cases h
  ·cases h
  ·rename_i u hu
   split at h
   ·cases h
   ·split at h
    ·cases h
    ·injection h with h
     split at h <;> omega
def ZFe (n : Nat) (c : UInt8) : Nat := 10 * n + (c.toNat - 48)
def Zia (n : Nat) (l : List UInt8) : Nat := l.foldl ZFe n
theorem ZAb (a b : List UInt8) (n : Nat) : Zia n (a ++ b) = Zia (Zia n a) b := List.foldl_append
theorem ZmS (n : Nat) : Zia n [] = n := List.foldl_nil
theorem ZkU (n : Nat) (c : UInt8) (l : List UInt8) : Zia n (c :: l) = Zia (10 * n + (c.toNat - 48)) l := List.foldl_cons ..
theorem ZuS (c : UInt8) : Zia 0 [c] = c.toNat - 48 := by rw [ZkU, ZmS]; omega
theorem Zsh (l : List UInt8) (c : UInt8) : Zia 0 (l ++ [c]) = 10 * Zia 0 l + (c.toNat - 48) := by rw [ZAb, ZkU, ZmS]
theorem Zpw : ∀ (l : List UInt8) (n : Nat), n ≤ Zia n l
 | [], n => by rw [ZmS]; exact Nat.le_refl _
 | c :: l, n => by rw [ZkU]; exact Nat.le_trans (by omega) (Zpw l _)
def ZiT (l : List UInt8) : Bool := match l with
 | [] => false
 | c :: r => (r.isEmpty || !(c.toNat == 48)) && (c :: r).all ZgS && decide (Zia 0 (c :: r) ≤ 9223372036854775807)
theorem Znt (c : UInt8) : ZgS c = true ↔ 48 ≤ c.toNat ∧ c.toNat ≤ 57 := by
 unfold ZgS; rw [Bool.and_eq_true, decide_eq_true_iff, decide_eq_true_iff]
theorem ZBf : ∀ (n u : Nat), u ≤ n → Zia 0 (Lib.decDigits u) = u := by
 intro n
 induction n with
 | zero =>
  intro u hu
  rw [Lib.decDigits, dif_pos (by omega), ZuS, Zi6 (by omega)]; omega
 | succ n ih =>
  intro u hu
  rw [Lib.decDigits]
  split
  ·rw [ZuS, Zi6 (by omega)]; omega
  ·rw [Zsh, ih (u / 10) (by omega), Zi6 (by omega)]; omega
theorem Zzk : ∀ (n u : Nat), u ≤ n → 0 < u → ∀ c r, Lib.decDigits u = c :: r → c.toNat ≠ 48 := by
 intro n
 induction n with
 | zero => intro u hu h0; omega
 | succ n ih =>
  intro u hu h0 c r h
  rw [Lib.decDigits] at h
  split at h
  ·injection h with h; rw [← h, Zi6 (by omega)]; omega
  ·cases hd : Lib.decDigits (u / 10) with
   | nil => exact absurd hd (ZqD _)
   | cons b r' =>
    rw [hd] at h
    injection h with h
    rw [← h]
    exact ih (u / 10) (by omega) (by omega) b r' hd
theorem ZxP {u : Nat} (h : u ≤ 9223372036854775807) : ZiT (Lib.decDigits u) = true := by
 cases hd : Lib.decDigits u with
 | nil => exact absurd hd (ZqD _)
 | cons c r =>
  unfold ZiT
  have hv := ZBf u u (Nat.le_refl _)
  have hall := Zqm u u (Nat.le_refl _)
  rw [hd] at hv hall
  have h1 : (c :: r).all ZgS = true := List.all_eq_true.2 fun x hx => (Znt x).2 (hall x hx)
  have h2 : (r.isEmpty || !(c.toNat == 48)) = true := by
   rcases Nat.eq_zero_or_pos u with h0 | h0
   ·subst h0
    rw [Lib.decDigits, dif_pos (by omega)] at hd
    injection hd with _ hd
    rw [← hd]; rfl
   ·have := Zzk u u (Nat.le_refl _) h0 c r hd
    rw [show (c.toNat == 48) = false from by rw [beq_eq_false_iff_ne]; exact this]; simp
  simp only [h1, h2, hv, Bool.true_and]
  exact decide_eq_true h
theorem ZsZ {c : UInt8} {k : Nat} (h : 48 ≤ c.toNat) (hk : k = c.toNat - 48) : UInt8.ofNat (48 + k) = c := by
 apply UInt8.toNat_inj.1
 have := c.toNat_lt
 rw [UInt8.toNat_ofNat', hk]; omega
theorem Zr5 : ∀ (n : Nat) (l : List UInt8), l.length = n → l ≠ [] → (∀ x ∈ l, ZgS x = true) → (∀ c r, l = c :: r → r = [] ∨ c.toNat ≠ 48) → Lib.decDigits (Zia 0 l) = l := by
 intro n
 induction n with
 | zero => intro l hl hne; exact absurd (List.eq_nil_of_length_eq_zero hl) hne
 | succ n ih =>
  intro l hl hne hall hh
  rcases List.eq_nil_or_concat l with h0 | ⟨b, c, hc⟩
  ·exact absurd h0 hne
  ·rw [List.concat_eq_append] at hc
   subst hc
   have hcd := (Znt c).1 (hall c (by simp))
   rw [Zsh]
   cases b with
   | nil =>
    rw [ZmS, Lib.decDigits, dif_pos (by omega), ZsZ hcd.1 (by omega)]; rfl
   | cons d b =>
    have hlen : (d :: b).length = n := by simp at hl ⊢; omega
    have ZG8 : d.toNat ≠ 48 := by
     rcases hh d (b ++ [c]) rfl with h | h
     ·simp at h
     ·exact h
    have hih := ih (d :: b) hlen (by simp) (fun x hx => hall x (by simp at hx ⊢; rcases hx with h | h; exact .inl h; exact .inr (.inl h))) (fun e r he => by injection he with h1 h2; subst h1; exact .inr ZG8)
    have hpos : 0 < Zia 0 (d :: b) := by
     have hdd := (Znt d).1 (hall d (by simp))
     have := Zpw b (10 * 0 + (d.toNat - 48))
     rw [ZkU]; omega
    rw [Lib.decDigits, dif_neg (by omega)]
    have e1 : (10 * Zia 0 (d :: b) + (c.toNat - 48)) / 10 = Zia 0 (d :: b) := by omega
    have e2 : (10 * Zia 0 (d :: b) + (c.toNat - 48)) % 10 = c.toNat - 48 := by omega
    rw [e1, e2, hih, ZsZ hcd.1 rfl]
theorem ZsH {l : List UInt8} (h : ZiT l = true) : Lib.decDigits (Zia 0 l) = l ∧ Zia 0 l ≤ 9223372036854775807 := by
 cases l with
 | nil => cases h
 | cons c r =>
  unfold ZiT at h
  rw [Bool.and_eq_true, Bool.and_eq_true, decide_eq_true_iff, List.all_eq_true] at h
  refine ⟨Zr5 _ (c :: r) rfl (by simp) h.1.2 fun d r' he => ?_, h.2⟩
  injection he with h1 h2
  subst h1 h2
  have := h.1.1
  rw [Bool.or_eq_true] at this
  rcases this with h3 | h3
  ·exact .inl (by simpa using h3)
  ·exact .inr (by simpa using h3)

theorem w64 {x : Int} (h : -9223372036854775808 ≤ x) (h' : x ≤ 9223372036854775807) : IntKind.i64.wrap x = x := IntWalk.i64_in x ⟨h, by omega⟩
theorem w8 {x : Int} (h : 0 ≤ x) (h' : x ≤ 255) : IntKind.u8.wrap x = x := by
 unfold IntKind.wrap
 simp [IntKind.bits, IntKind.signed]
 omega
theorem ZBv (s : ByteArray) (hs : s.size ≤ 1000000000) : ∀ (d k m : Nat), s.size - k = d → k ≤ s.size → m ≤ 9223372036854775807 → ZaY s ((m : Nat) : Int) k =
  some (if ((s.data.toList.drop k).all ZgS && decide (Zia m (s.data.toList.drop k) ≤ 9223372036854775807)) = true then (((Zia m (s.data.toList.drop k) : Nat) : Int), true) else (0, false)) := by
 intro d
 induction d with
 | zero =>
  intro k m hk hle hm
  rw [ZaY, if_neg (by rw [decide_eq_true_iff]; omega), List.drop_eq_nil_of_le (by rw [sz]; omega), ZmS, List.all_nil, Bool.true_and, if_pos (decide_eq_true hm)]
 | succ d ih =>
  intro k m hk hle hm
  have hlt : k < s.size := by omega
  obtain ⟨y, hy⟩ : ∃ y, s.data.toList[k]? = some y := ⟨_, List.getElem?_eq_getElem (by rw [sz]; exact hlt)⟩
  rw [ZaY, if_pos (by rw [decide_eq_true_iff]; omega), ZeB, hy, Zn, ZBV, Zn, Zjc hy, List.all_cons, ZkU]
  cases hd : ZgS y with
  | false => rw [Bool.not_false, ifT, Bool.false_and, Bool.false_and, ifF]
  | true =>
   have hdd := (Znt y).1 hd
   have e8 : IntKind.u8.wrap (((y.toNat : Nat) : Int) - 48) = ((y.toNat - 48 : Nat) : Int) := by rw [w8 (by omega) (by omega)]; omega
   rw [Bool.not_true, ifF, Zn, e8, w64 (x := ((y.toNat - 48 : Nat) : Int)) (by omega) (by omega), w64 (x := 9223372036854775807 - ((y.toNat - 48 : Nat) : Int)) (by omega) (by omega)]
   have et : Int.tdiv (9223372036854775807 - ((y.toNat - 48 : Nat) : Int)) 10 = (9223372036854775807 - ((y.toNat - 48 : Nat) : Int)) / 10 := Int.tdiv_eq_ediv_of_nonneg (by omega)
   rw [et, w64 (x := (9223372036854775807 - ((y.toNat - 48 : Nat) : Int)) / 10) (by omega) (by omega), Bool.true_and]
   by_cases hg : 10 * m + (y.toNat - 48) ≤ 9223372036854775807
   ·rw [if_neg (by rw [decide_eq_true_iff]; omega), Zdd _ (by omega), w64 (x := 10 * ((m : Nat) : Int)) (by omega) (by omega), w64 (x := 10 * ((m : Nat) : Int) + ((y.toNat - 48 : Nat) : Int)) (by omega) (by omega)]
    have e : 10 * ((m : Nat) : Int) + ((y.toNat - 48 : Nat) : Int) = ((10 * m + (y.toNat - 48) : Nat) : Int) := by omega
    rw [e, ih (k + 1) (10 * m + (y.toNat - 48)) (by omega) (by omega) hg]
   ·rw [if_pos (by rw [decide_eq_true_iff]; omega)]
    have h1 := Zpw (s.data.toList.drop (k + 1)) (10 * m + (y.toNat - 48))
    rw [show decide (Zia (10 * m + (y.toNat - 48)) (s.data.toList.drop (k + 1)) ≤ 9223372036854775807) = false from decide_eq_false (by omega), Bool.and_false, ifF]
theorem ZAi (s : ByteArray) (hs : s.size ≤ 1000000000) : ZcF s = some (if ZiT s.data.toList = true then (((Zia 0 s.data.toList : Nat) : Int), true) else (0, false)) := by
 unfold ZcF
 rw [Znk]
 cases hl : s.data.toList with
 | nil =>
  have h0 : s.size = 0 := by rw [← sz, hl]; rfl
  rw [decide_eq_true h0, orT, ifT]; rfl
 | cons c r =>
  have h0 : s.size = r.length + 1 := by rw [← sz, hl]; rfl
  have hb : btI s 0 = some c := by have := ZeB s 0; rw [hl] at this; exact this
  rw [decide_eq_false (by omega), orF, hb, Zn, Zn, show (48 : Int) = ((48 : Nat) : Int) from rfl, ZdU]
  have e1 : decide (((s.size : Nat) : Int) > 1) = !r.isEmpty := by
   cases r with
   | nil => exact decide_eq_false (by simp at h0; omega)
   | cons a b => exact decide_eq_true (by simp at h0; omega)
  rw [e1]
  have e2 : ZiT (c :: r) = ((r.isEmpty || !(c.toNat == 48)) && (c :: r).all ZgS && decide (Zia 0 (c :: r) ≤ 9223372036854775807)) := rfl
  rw [e2]
  cases hz : ((c.toNat == 48) && !r.isEmpty) with
  | true =>
   have : (r.isEmpty || !(c.toNat == 48)) = false := by revert hz; cases (c.toNat == 48) <;> cases r.isEmpty <;> simp
   rw [ifT, this, Bool.false_and, Bool.false_and, ifF]
  | false =>
   have : (r.isEmpty || !(c.toNat == 48)) = true := by revert hz; cases (c.toNat == 48) <;> cases r.isEmpty <;> simp
   have hh := ZBv s hs _ 0 0 rfl (by omega) (by omega)
   rw [ifF, this, Bool.true_and]
   rw [List.drop_zero, hl] at hh
   exact hh

def spd : List UInt8 → Option (List UInt8 × List UInt8)
 | [] => none
 | b :: l => match spd l with
  | some p => some (b :: p.1, p.2)
  | none => if b.toNat = 36 then some ([], l) else none
theorem ZtY : ∀ {l : List UInt8} {p : List UInt8 × List UInt8}, spd l = some p → ∃ b : UInt8, b.toNat = 36 ∧ l = p.1 ++ b :: p.2
 | [], p, h => by cases h
 | c :: l, p, h => by
  unfold spd at h
  cases hs : spd l with
  | some q =>
   rw [hs] at h
   injection h with h
   obtain ⟨b, hb, hl⟩ := ZtY hs
   subst h
   exact ⟨b, hb, by rw [hl]; rfl⟩
  | none =>
   rw [hs] at h
   simp only at h
   split at h
   ·injection h with h; subst h; exact ⟨c, by assumption, rfl⟩
   ·cases h
theorem Zuz (y : UInt8) : ∀ l : List UInt8, spd (l ++ [y]) = if y.toNat = 36 then some (l, []) else (spd l).map fun p => (p.1, p.2 ++ [y])
 | [] => rfl
 | b :: l => by
  rw [List.cons_append]
  unfold spd
  rw [Zuz y l]
  by_cases h : y.toNat = 36
  ·rw [if_pos h, if_pos h]
  ·rw [if_neg h, if_neg h]
   cases spd l with
   | some p => rfl
   | none =>
    simp only [Option.map_none]
    split <;> rfl
def Zt6 (l : List UInt8) : Int := match spd l with
 | some p => ((p.1.length : Nat) : Int)
 | none => -1
theorem Zy8 (s : ByteArray) (hs : s.size ≤ 1000000000) : ∀ k, k ≤ s.size → ZP s 36 (((k : Nat) : Int) - 1) = some (Zt6 (s.data.toList.take k)) := by
 intro k
 induction k with
 | zero => intro _; rw [ZP, if_neg (by rw [decide_eq_true_iff]; omega)]; rfl
 | succ k ih =>
  intro hk
  obtain ⟨y, hy⟩ : ∃ y, s.data.toList[k]? = some y := ⟨_, List.getElem?_eq_getElem (by rw [sz]; exact hk)⟩
  have e : ((k + 1 : Nat) : Int) - 1 = ((k : Nat) : Int) := by omega
  rw [e, ZP, if_pos (by rw [decide_eq_true_iff]; omega), ZeB, hy, Zn, show (36 : Int) = ((36 : Nat) : Int) from rfl, ZdU]
  have ht : s.data.toList.take (k + 1) = s.data.toList.take k ++ [y] := by rw [List.take_add_one, hy]; rfl
  have hl : (s.data.toList.take k).length = k := by rw [List.length_take, sz]; omega
  unfold Zt6
  rw [ht, Zuz]
  by_cases h : y.toNat = 36
  ·rw [if_pos (by rw [beq_iff_eq]; exact h), if_pos h]; simp only [hl]
  ·rw [if_neg (by rw [beq_iff_eq]; exact h), if_neg h, w64 (by omega) (by omega)]
   have := ih (by omega)
   rw [show ((36 : Nat) : Int) = 36 from rfl, this]
   unfold Zt6
   cases spd (s.data.toList.take k) <;> rfl
theorem ZDg (s : ByteArray) (hs : s.size ≤ 1000000000) : ZbZ s 36 = some (Zt6 s.data.toList) := by
 unfold ZbZ ZaZ
 rw [w64 (by omega) (by omega), Zy8 s hs s.size (Nat.le_refl _), Zn, List.take_of_length_le (by rw [sz]; omega)]
def Ziw (s : ByteArray) : ByteArray × Int × Bool :=
 match spd s.data.toList with
 | some p => if (ZlZ (mkB p.1) && ZiT p.2) = true then (mkB p.1, ((Zia 0 p.2 : Nat) : Int), true) else (ByteArray.mk #[], 0, false)
 | none => (ByteArray.mk #[], 0, false)
theorem Zyr {n : Int} (h : ZlQ n) : strconv_Itoa n = some (ZoL n) := by
 unfold strconv_Itoa
 have h' : -9223372036854775808 ≤ n ∧ n ≤ 9223372036854775807 := h
 rw [Zdd _ h']
def ZsL (b : ByteArray) (n : Int) : ByteArray := if (decide (n < 0) || !ZlZ b) = true then ByteArray.mk #[] else (b ++ ByteArray.mk #[36]) ++ ZoL n
theorem ZAc {b : ByteArray} {n : Int} (hb : b.size ≤ 1000000000) (hn : ZlQ n) : (Z4 (((b.size + (ByteArray.mk #[36]).size : Nat) : Int) ≤ IntKind.i64.max) >>= fun _ => strconv_Itoa n >>= fun r9 =>
  Z4 ((((b ++ (ByteArray.mk #[36])).size + r9.size : Nat) : Int) ≤ IntKind.i64.max) >>= fun _ => some ((b ++ (ByteArray.mk #[36])) ++ r9)) = some ((b ++ (ByteArray.mk #[36])) ++ ZoL n) := by
 have e : (ByteArray.mk #[36]).size = 1 := rfl
 have hl : (ZoL n).size ≤ 21 := by rw [← sz, Zof]; exact ZAs hn
 have h1 : ((b.size + (ByteArray.mk #[36]).size : Nat) : Int) ≤ IntKind.i64.max := by rw [Zpr, e]; omega
 have h2 : (((b ++ (ByteArray.mk #[36])).size + (ZoL n).size : Nat) : Int) ≤ IntKind.i64.max := by rw [Zpr, Zro, e]; omega
 rw [Zdd _ h1, Zyr hn, Zn, Zdd _ h2]
theorem ZCA (b : ByteArray) (n : Int) (hb : b.size ≤ 1000000000) (hn : ZlQ n) : ZfV b n = some (ZsL b n) := by
 unfold ZfV ZsL
 cases decide (n < 0) with
 | true => rw [orT, Bool.true_or, ifT, ifT]
 | false =>
  rw [orF, ZzB b hb, Zn, Zn, Bool.false_or]
  cases ZlZ b with
  | true => rw [Bool.not_true, ifF, ifF]; exact ZAc hb hn
  | false => rw [Bool.not_false, ifT, ifT]
theorem r_made (b : ByteArray) (n : Int) (hb : b.size ≤ 1000000000) (hn : ZlQ n) : Zds b n = some (ZsL b n) := by
 unfold Zds ZsL
 rw [ZAu b hb, Zn, Bool.or_comm]
 cases (decide (n < 0) || !ZlZ b) with
 | true => rw [ifT, ifT]
 | false => rw [ifF, ifF]; exact ZAc hb hn
theorem Zu3 (a : List UInt8) (b : UInt8) (r : List UInt8) : (a ++ b :: r).take a.length = a ∧ (a ++ b :: r).drop (a.length + 1) = r := by
 constructor
 ·rw [List.take_left']; rfl
 ·rw [← List.drop_drop, List.drop_left']
  ·rfl
  ·rfl
theorem Zon {a : List UInt8} (h : ZiT a = true) : Lib.atoiAll a = .ok ((Zia 0 a : Nat) : Int) := by
 obtain ⟨h1, h2⟩ := ZsH h
 have := ZsY (n := ((Zia 0 a : Nat) : Int)) ⟨by omega, by omega⟩
 unfold Lib.itoa at this
 rw [if_neg (by omega), Int.toNat_natCast, h1] at this
 exact this
theorem Zyl {a : List UInt8} {v : Int} (h : Lib.atoiAll a = .ok v) : (¬ v < 0 ∧ Lib.itoa v = a) ↔ ZiT a = true := by
 constructor
 ·rintro ⟨h0, h1⟩
  have hr := ZqG h
  unfold Lib.itoa at h1
  rw [if_neg h0] at h1
  rw [← h1]
  exact ZxP (by unfold ZlQ at hr; omega)
 ·intro hc
  rw [Zon hc] at h
  injection h with h
  subst h
  refine ⟨by omega, ?_⟩
  unfold Lib.itoa
  rw [if_neg (by omega), Int.toNat_natCast, (ZsH hc).1]
theorem Zwf (s : ByteArray) (hs : s.size ≤ 1000000000) : Ze0 s = some (Ziw s) := by
 unfold Ze0 Ziw
 rw [ZDg s hs, Zn]
 unfold Zt6
 cases hd : spd s.data.toList with
 | none => rfl
 | some p =>
  obtain ⟨b, hb, hl⟩ := ZtY hd
  have hlen : s.size = p.1.length + 1 + p.2.length := by rw [← sz, hl]; simp; omega
  obtain ⟨t1, t2⟩ := Zu3 p.1 b p.2
  simp only
  have ha : slS s (((p.1.length + 1 : Nat) : Int)) ((s.size : Nat) : Int) = some (mkB p.2) := by
   rw [Zom s _ _ (by omega) (by omega)]
   congr 1
   refine ZfB ?_
   rw [Zfp, Zew, hl, t2]
   exact List.take_of_length_le (by omega)
  have hz : slS s ((0 : Nat) : Int) ((p.1.length : Nat) : Int) = some (mkB p.1) := by
   rw [Zom s _ _ (by omega) (by omega)]
   congr 1
   refine ZfB ?_
   rw [Zfp, Zew, hl]
   exact t1
  rw [if_neg (by rw [decide_eq_true_iff]; omega), Zdu (by omega), ha, Zn]
  have hat : Zfq (mkB p.2) = some (ZsK (mkB p.2)) := by unfold Zfq; rw [Zdd _ (by rw [ZkY]; omega)]
  rw [hat, Zn, hz]
  unfold ZsK
  rw [Zew]
  have hno : ∀ e, Lib.atoiAll p.2 = e → (∀ v, e ≠ .ok v) → ZiT p.2 = false := fun e he hv => by
   cases hc : ZiT p.2 with
   | false => rfl
   | true => exact absurd (he.symm.trans (Zon hc)) (hv _)
  cases hat2 : Lib.atoiAll p.2 with
  | «syntax» => rw [hno _ hat2 (by simp), Bool.and_false, ifF]; rfl
  | range => rw [hno _ hat2 (by simp), Bool.and_false, ifF]; rfl
  | ok v =>
   have hr := ZqG hat2
   have hbk := Zyl hat2
   simp only
   rw [if_neg (by simp), Zn, ZCA _ _ (by rw [ZkY]; omega) hr, Zn]
   have ZIo : b = 36 := UInt8.toNat_inj.1 hb
   have hkey : ((ZsL (mkB p.1) v).toList == s.toList) = (ZlZ (mkB p.1) && ZiT p.2) := by
    rw [Za0, Za0, hl]
    unfold ZsL
    cases hst : ZlZ (mkB p.1) with
    | false =>
     rw [Bool.not_false, Bool.or_true, ifT, Bool.false_and, beq_eq_false_iff_ne]
     intro h
     have := congrArg List.length h
     simp at this
    | true =>
     rw [Bool.not_true, Bool.or_false, Bool.true_and]
     by_cases hv : v < 0
     ·have hc : ZiT p.2 = false := by
       cases hc : ZiT p.2 with
       | false => rfl
       | true => exact absurd hv (hbk.2 hc).1
      rw [decide_eq_true hv, ifT, hc, beq_eq_false_iff_ne]
      intro h
      have := congrArg List.length h
      simp at this
     ·rw [decide_eq_false hv, ifF, Zm5, Zm5, Zew, Zof]
      have e36 : (ByteArray.mk #[36]).data.toList = [36] := rfl
      rw [e36, ZIo, Bool.eq_iff_iff, beq_iff_eq, ← hbk, List.append_assoc]
      constructor
      ·intro h
       have h2 := List.append_cancel_left h
       injection h2 with _ h3
       exact ⟨hv, h3⟩
      ·rintro ⟨_, h⟩
       rw [h]; rfl
   rw [hkey]
   cases hc : (ZlZ (mkB p.1) && ZiT p.2) with
   | false => rw [Bool.not_false, ifF]; rfl
   | true =>
    rw [Bool.not_true, ifT]
    rw [Bool.and_eq_true] at hc
    have hv := hat2.symm.trans (Zon hc.2)
    injection hv with hv
    rw [hv]; rfl

def ZGp (s : ByteArray) (ZhU : Int) : Option (ByteArray × Int × Bool) :=
 (if (decide (ZhU < 0)) = true then some true else (slS s ((0 : Nat) : Int) ZhU) >>= fun z37 =>
 ZcT z37 >>= fun r38 =>
 some (!r38)) >>= fun c39 =>
 if c39 = true then
 some ((ByteArray.mk #[]), 0, false)
 else
 (slS s (IntKind.i64.wrap (ZhU + 1)) ((s.size : Nat) : Int)) >>= fun z42 =>
 ZcF z42 >>= fun r43 =>
 if (!r43.2) = true then
 some ((ByteArray.mk #[]), 0, false)
 else
 (slS s ((0 : Nat) : Int) ZhU) >>= fun z46 =>
 some (z46, r43.1, true)
theorem ZyN (s : ByteArray) (hs : s.size ≤ 1000000000) : ∀ (d k : Nat) (ZhU : Int), s.size - k = d → k ≤ s.size → Za6 s ZhU k = ZGp s (match spd (s.data.toList.drop k) with | some p => (((k + p.1.length : Nat)) : Int) | none => ZhU) := by
 intro d
 induction d with
 | zero =>
  intro k ZhU hk hle
  rw [Za6, if_neg (by rw [decide_eq_true_iff]; omega), List.drop_eq_nil_of_le (by rw [sz]; omega)]; rfl
 | succ d ih =>
  intro k ZhU hk hle
  have hlt : k < s.size := by omega
  obtain ⟨y, hy⟩ : ∃ y, s.data.toList[k]? = some y := ⟨_, List.getElem?_eq_getElem (by rw [sz]; exact hlt)⟩
  rw [Za6, if_pos (by rw [decide_eq_true_iff]; omega), ZeB, hy, Zn, show (36 : Int) = ((36 : Nat) : Int) from rfl, ZdU, Zjc hy]
  have e : spd (y :: s.data.toList.drop (k + 1)) = match spd (s.data.toList.drop (k + 1)) with | some p => some (y :: p.1, p.2) | none => if y.toNat = 36 then some ([], s.data.toList.drop (k + 1)) else none := by rw [spd]; (try (cases spd (s.data.toList.drop (k + 1)) <;> rfl))
  rw [e]
  by_cases h : y.toNat = 36
  ·rw [if_pos (by rw [beq_iff_eq]; exact h), Zdd _ (by omega), ih (k + 1) _ (by omega) (by omega), if_pos h]
   cases spd (s.data.toList.drop (k + 1)) with
   | none => rfl
   | some p => simp only [List.length_cons]; congr 1; omega
  ·rw [if_neg (by rw [beq_iff_eq]; exact h), Zdd _ (by omega), ih (k + 1) _ (by omega) (by omega), if_neg h]
   cases spd (s.data.toList.drop (k + 1)) with
   | none => rfl
   | some p => simp only [List.length_cons]; congr 1; omega
theorem ZAA (s : ByteArray) (hs : s.size ≤ 1000000000) : ZcS s = some (Ziw s) := by
 unfold ZcS Ziw
 rw [ZyN s hs _ 0 (-1) rfl (by omega), List.drop_zero]
 cases hd : spd s.data.toList with
 | none => rfl
 | some p =>
  obtain ⟨b, hb, hl⟩ := ZtY hd
  have hlen : s.size = p.1.length + 1 + p.2.length := by rw [← sz, hl]; simp; omega
  obtain ⟨t1, t2⟩ := Zu3 p.1 b p.2
  have ha : slS s (((p.1.length + 1 : Nat) : Int)) ((s.size : Nat) : Int) = some (mkB p.2) := by
   rw [Zom s _ _ (by omega) (by omega)]
   congr 1
   refine ZfB ?_
   rw [Zfp, Zew, hl, t2]
   exact List.take_of_length_le (by omega)
  have hz : slS s ((0 : Nat) : Int) ((p.1.length : Nat) : Int) = some (mkB p.1) := by
   rw [Zom s _ _ (by omega) (by omega)]
   congr 1
   refine ZfB ?_
   rw [Zfp, Zew, hl]
   exact t1
  simp only [Nat.zero_add]
  unfold ZGp
  rw [decide_eq_false (by omega), orF, hz, Zn, ZAu _ (by rw [ZkY]; omega), Zn, Zn, Zdu (by omega), ha]
  cases ZlZ (mkB p.1) with
  | false => rw [Bool.not_false, ifT, Bool.false_and, ifF]
  | true =>
   rw [Bool.not_true, ifF, Zn, ZAi _ (by rw [ZkY]; omega), Zn, Zew, Bool.true_and]
   cases ZiT p.2 with
   | false => rfl
   | true => rfl
def Zl5 (s : ByteArray) : Bool := if (Ziw s).2.2 = true then ZdN (Ziw s).1.data.toList == 1 else (ZdN s.data.toList == 1 && !(s.toList == [102, 111, 114, 97, 108, 108]))
theorem Ztb (s : ByteArray) (hs : s.size ≤ 1000000000) : Zdi s = some (if ZdN s.data.toList = 0 then (if (Ziw s).2.2 = true then 7 else 0) else ZdN s.data.toList) := by
 unfold Zdi ZdN
 rw [ZBO, Zn, Zz6, Zvn, Zry]
 cases hw : Zh1 s.data.toList with
 | true =>
  obtain ⟨c, r, hl, hb⟩ := Zoz (Zhi hw).1
  have hns : Zfv.contains s.data.toList = false := by
   cases h : Zfv.contains s.data.toList with
   | false => rfl
   | true => have := ZpR h; rw [ZiQ hw] at this; cases this
  cases ZdE.contains s.data.toList with
  | true => rfl
  | false =>
   rw [ifF, Zn, hns, ifF, Zn, hb, Zzm, Zn, ZCG, Zn, Zn, Zn, ifT, ifT, ifF]
   have hu : ZiK s.data.toList = Zig c := by rw [hl]; rfl
   rw [hu]
   cases Zig c <;> rfl
 | false =>
  have hnr : ZdE.contains s.data.toList = false := by
   cases h : ZdE.contains s.data.toList with
   | false => rfl
   | true => have := Zzw h; rw [hw] at this; cases this
  rw [hnr, ifF, Zn, ifF]
  cases hsy : ZeW s.data.toList with
  | true =>
   obtain ⟨c, r, hl, hb⟩ := Zoz (Zmx hsy).1
   have hu : Zqs s.data.toList = (c.toNat == 58) := by rw [hl]; rfl
   rw [hu]
   cases Zfv.contains s.data.toList with
   | true => rfl
   | false =>
    rw [ifF, Zn, ZDW, ifF, Zn, ifF, Zn, hb, Zzm, Zn, show (58 : Int) = ((58 : Nat) : Int) from rfl, ZdU, Zn, Zn, ifT, ifT, ifF]
    cases (c.toNat == 58) <;> rfl
  | false =>
   have hnr2 : Zfv.contains s.data.toList = false := by
    cases h : Zfv.contains s.data.toList with
    | false => rfl
    | true => have := ZpR h; rw [hsy] at this; cases this
   rw [hnr2, ifF, Zn, ZDW, ifF, Zn, ifF, Zn, ZDW, ifF, Zn, ifF, Zwf s hs, Zn]
   cases (Ziw s).2.2 <;> rfl

theorem Zpv (s : ByteArray) : (Ziw s).1.size ≤ s.size := by
 unfold Ziw
 cases hd : spd s.data.toList with
 | none => exact Nat.zero_le _
 | some p =>
  obtain ⟨b, hb, hl⟩ := ZtY hd
  have hlen : s.size = p.1.length + 1 + p.2.length := by rw [← sz, hl]; simp; omega
  simp only
  split
  ·show (mkB p.1).size ≤ _; rw [ZkY]; omega
  ·exact Nat.zero_le _
theorem ZxD : ∀ {l : List UInt8} {p : List UInt8 × List UInt8}, spl l = some p → p.1.length + p.2.length < l.length
 | [], p, h => by cases h
 | b :: l, p, h => by
  unfold spl at h
  split at h
  ·injection h with h; subst h; simp
  ·obtain ⟨q, hq, rfl⟩ := Option.map_eq_some_iff.1 h
   have := ZxD hq
   simp only [List.length_cons]; omega
theorem Zwo (s : ByteArray) : (Zij s).2.1.size ≤ s.size := by
 unfold Zij
 cases hd : spl s.data.toList with
 | none => exact Nat.zero_le _
 | some p =>
  have := ZxD hd
  rw [sz] at this
  simp only
  split
  ·show (mkB p.2).size ≤ _; rw [ZkY]; omega
  ·exact Nat.zero_le _
theorem ZtR (s : ByteArray) (k : Int) (h0 : k ≠ 0) (h7 : k ≠ 7) : ((if ZdN s.data.toList = 0 then (if (Ziw s).2.2 = true then (7 : Int) else 0) else ZdN s.data.toList) == k) = (ZdN s.data.toList == k) := by
 by_cases h : ZdN s.data.toList = 0
 ·rw [if_pos h, h]
  have e0 : ((0 : Int) == k) = false := by rw [beq_eq_false_iff_ne]; exact fun e => h0 e.symm
  have e7 : ((7 : Int) == k) = false := by rw [beq_eq_false_iff_ne]; exact fun e => h7 e.symm
  split
  ·rw [e7, e0]
  ·rfl
 ·rw [if_neg h]
theorem ZAP (s : ByteArray) (hs : s.size ≤ 1000000000) : Za9 s = some (Zl5 s) := by
 unfold Za9 Zl5
 rw [Zwf s hs, Zn]
 cases (Ziw s).2.2 with
 | true =>
  have := Zpv s
  rw [ifT, ifT, Ztb _ (by omega), Zn, ZtR _ 1 (by decide) (by decide)]
 | false =>
  rw [ifF, ifF, Ztb _ hs, Zn, ZtR _ 1 (by decide) (by decide), Za0 (ByteArray.mk #[102, 111, 114, 97, 108, 108])]
theorem ZBM (s : ByteArray) (hs : s.size ≤ 1000000000) : Zby s = some (Zl5 s) := by
 unfold Zby Zl5
 rw [ZAA s hs, Zn]
 cases (Ziw s).2.2 with
 | true => rw [ifT, ifT, ZmP, Zn]
 | false => rw [ifF, ifF, ZmP, Zn, Za0 (ByteArray.mk #[102, 111, 114, 97, 108, 108])]
def unS (b : ByteArray) : ByteArray := if (Zij b).2.2 = true then (Zij b).2.1 else b
def Zvq (s : ByteArray) : Bool :=
 let b := unS (if (Ziw s).2.2 = true then (Ziw s).1 else s)
 (ZdN b.data.toList == 2) || (ZdN b.data.toList == 4)
theorem ZyY (b : ByteArray) (hs : b.size ≤ 1000000000) : ZcV b = some ((ZdN b.data.toList == 2) || (ZdN b.data.toList == 4)) := by
 unfold ZcV
 rw [Ztb b hs, Zn, ZtR _ 2 (by decide) (by decide), ZtR _ 4 (by decide) (by decide)]
theorem Zy1 (b : ByteArray) (hs : b.size ≤ 1000000000) : ZcZ b = some ((ZdN (unS b).data.toList == 2) || (ZdN (unS b).data.toList == 4)) := by
 unfold ZcZ unS
 rw [ZwQ b hs, Zn]
 cases (Zij b).2.2 with
 | true => have := Zwo b; rw [ifT, ifT, ZyY _ (by omega)]
 | false => rw [ifF, ifF, ZyY _ hs]
theorem ZGD (s : ByteArray) (hs : s.size ≤ 1000000000) : Zen s = some (Zvq s) := by
 unfold Zen Zvq
 rw [Zwf s hs, Zn]
 cases (Ziw s).2.2 with
 | true => have := Zpv s; rw [ifT, Zy1 _ (by omega)]; rfl
 | false => rw [ifF, Zy1 _ hs]; rfl
theorem ZzS (b : ByteArray) : Zbj b = some ((ZdN b.data.toList == 2) || (ZdN b.data.toList == 4)) := by
 unfold Zbj
 rw [ZmP, Zn]
theorem ZzH (b : ByteArray) (hs : b.size ≤ 1000000000) : Zbk b = some ((ZdN (unS b).data.toList == 2) || (ZdN (unS b).data.toList == 4)) := by
 unfold Zbk unS
 rw [Zxz b hs, Zn]
 cases (Zij b).2.2 with
 | true => rw [ifT, ifT, ZzS]
 | false => rw [ifF, ifF, ZzS]
theorem ZFC (s : ByteArray) (hs : s.size ≤ 1000000000) : Zcy s = some (Zvq s) := by
 unfold Zcy Zvq
 rw [ZAA s hs, Zn]
 cases (Ziw s).2.2 with
 | true => have := Zpv s; rw [Bool.not_true, ifF, ZzH _ (by omega)]; rfl
 | false => rw [Bool.not_false, ifT, ZzH _ hs]; rfl

theorem ZCg {s : ByteArray} {k : Nat} {y : UInt8} (h : s.data.toList[k]? = some y) : s.get! k = y := by
 obtain ⟨h1, h2⟩ := List.getElem?_eq_some_iff.1 h
 have hk : k < s.data.size := by simpa using h1
 show s.data[k]! = y
 rw [getElem!_pos s.data k hk]
 simpa using h2
theorem ZxQ (s : ByteArray) {k : Nat} {y : UInt8} (h : s.data.toList[k]? = some y) : ((Utf8.decode s k).1 = 44 ↔ y.toNat = 44) ∧ (y.toNat = 44 → (Utf8.decode s k).2 = 1) := by
 have hy := ZCg h
 have hre : Utf8.runeError ≠ 44 := by decide
 unfold Utf8.decode
 simp only [Nat.add_zero, hy]
 by_cases h1 : y.toNat < 128
 ·rw [if_pos h1]; exact ⟨Iff.rfl, fun _ => rfl⟩
 ·rw [if_neg h1]
  refine ⟨⟨fun h2 => ?_, fun h2 => by omega⟩, fun h2 => by omega⟩
  exfalso
  revert h2
  repeat' split
  all_goals first | (intro h2; exact hre h2) | (intro h2; simp only at h2; simp_all; done) | (intro h2; simp only at h2; rename_i q; simp only [Bool.and_eq_true, decide_eq_true_iff] at q; omega) | (intro h2; simp only at h2; rename_i q; omega)
theorem ZA0 (z : ByteArray) : ∀ (d k : Nat), z.size - k = d → Zb9 z k = some ((z.data.toList.drop k).all fun c => c.toNat == 44) := by
 intro d
 induction d with
 | zero =>
  intro k hk
  rw [Zb9, if_neg (by rw [decide_eq_true_iff]; omega), List.drop_eq_nil_of_le (by rw [sz]; omega)]; rfl
 | succ d ih =>
  intro k hk
  obtain ⟨y, hy⟩ : ∃ y, z.data.toList[k]? = some y := ⟨_, List.getElem?_eq_getElem (by rw [sz]; omega)⟩
  obtain ⟨h1, h2⟩ := ZxQ z hy
  rw [Zb9, if_pos (by rw [decide_eq_true_iff]; omega), Zjc hy, List.all_cons, show (44 : Int) = ((44 : Nat) : Int) from rfl, bne, ZdU]
  by_cases h : y.toNat = 44
  ·rw [h1.2 h, h2 h, ih (k + 1) (by omega), h]; rfl
  ·have e : ((Utf8.decode z k).1 == 44) = false := by rw [beq_eq_false_iff_ne]; exact fun q => h (h1.1 q)
   have e2 : (y.toNat == 44) = false := by rw [beq_eq_false_iff_ne]; exact h
   rw [e, e2]; rfl

def Ztq (j : Nat) : List UInt8 := 40 :: (List.replicate j 44 ++ [41])
theorem ZuE (j : Nat) : (Ztq j).length = j + 2 := by unfold Ztq; simp
def Zsc (l : List UInt8) : Bool := (List.range 6).any fun j => l == Ztq (j + 1)
theorem shape {l : List UInt8} {a b : UInt8} (h3 : 3 ≤ l.length) (ha : l[0]? = some a) (hb : l[l.length - 1]? = some b) : l = a :: ((l.drop 1).take (l.length - 2) ++ [b]) := by
 cases l with
 | nil => simp at h3
 | cons c t =>
  have hc : c = a := by simpa using ha
  subst hc
  have ht : t ≠ [] := by intro h; subst h; simp at h3
  have hlast : t.getLast ht = b := by
   rw [List.getLast_eq_getElem]
   have : (c :: t)[(c :: t).length - 1]? = t[t.length - 1]? := by
    have e : (c :: t).length - 1 = (t.length - 1) + 1 := by simp only [List.length_cons] at h3 ⊢; omega
    rw [e, List.getElem?_cons_succ]
   rw [this] at hb
   exact (List.getElem?_eq_some_iff.1 hb).2
  have e2 : (c :: t).length - 2 = t.length - 1 := by simp only [List.length_cons]; omega
  rw [e2]
  show c :: t = c :: (t.take (t.length - 1) ++ [b])
  rw [← List.dropLast_eq_take, ← hlast, List.dropLast_concat_getLast]
theorem ZBK {l : List UInt8} {a b : UInt8} (h3 : 3 ≤ l.length) (h8 : l.length ≤ 8) (ha : l[0]? = some a) (hb : l[l.length - 1]? = some b) :
  Zsc l = (a.toNat == 40 && b.toNat == 41 && ((l.drop 1).take (l.length - 2)).all fun c => c.toNat == 44) := by
 have hs := shape h3 ha hb
 have hml : ((l.drop 1).take (l.length - 2)).length = l.length - 2 := by rw [List.length_take, List.length_drop]; omega
 rw [Bool.eq_iff_iff]
 unfold Zsc
 rw [List.any_eq_true, Bool.and_eq_true, Bool.and_eq_true, beq_iff_eq, beq_iff_eq, List.all_eq_true]
 constructor
 ·rintro ⟨j, hj, h⟩
  rw [beq_iff_eq] at h
  have hl := congrArg List.length h
  rw [ZuE] at hl
  have hj2 : l.length - 2 = j + 1 := by omega
  rw [hj2] at hs ⊢
  rw [h] at hs
  unfold Ztq at hs
  injection hs with h1 h2
  have h4 := List.append_inj h2 (by rw [List.length_replicate, List.length_take, List.length_drop]; simp)
  refine ⟨⟨by rw [← h1]; rfl, ?_⟩, fun x hx => ?_⟩
  ·have := h4.2; injection this with h5; rw [← h5]; rfl
  ·rw [h] at hx
   unfold Ztq at hx
   rw [← h4.1] at hx
   rw [List.eq_of_mem_replicate hx]; rfl
 ·rintro ⟨⟨h1, h2⟩, h4⟩
  refine ⟨l.length - 3, List.mem_range.2 (by omega), ?_⟩
  rw [beq_iff_eq]
  have ZHi : a = 40 := UInt8.toNat_inj.1 h1
  have ZIc : b = 41 := UInt8.toNat_inj.1 h2
  have hm : (l.drop 1).take (l.length - 2) = List.replicate (l.length - 2) 44 := by
   refine List.eq_replicate_iff.2 ⟨hml, fun x hx => ?_⟩
   have := h4 x hx
   rw [beq_iff_eq] at this
   exact UInt8.toNat_inj.1 this
  rw [hm, ZHi, ZIc] at hs
  unfold Ztq
  rw [show l.length - 3 + 1 = l.length - 2 from by omega]
  exact hs
def Zvb (l : List UInt8) : Bool := (l == [45, 62] || l == [91, 93]) || l == [40, 41]
theorem ZFz (s : ByteArray) (hs : s.size ≤ 1000000000) : Zem s = some (Zvb s.data.toList || Zsc s.data.toList) := by
 unfold Zem
 have e0 : (((s.toList == (ByteArray.mk #[45, 62]).toList) || (s.toList == (ByteArray.mk #[91, 93]).toList)) || (s.toList == (ByteArray.mk #[40, 41]).toList)) = Zvb s.data.toList := by
  rw [Za0, Za0, Za0, Za0]; rfl
 rw [e0]
 cases Zvb s.data.toList with
 | true => rfl
 | false =>
  rw [ifF, Bool.false_or]
  by_cases hn : 3 ≤ s.size ∧ s.size ≤ 8
  ·have hlen : s.data.toList.length = s.size := sz s
   obtain ⟨a, ha⟩ : ∃ a, s.data.toList[0]? = some a := ⟨_, List.getElem?_eq_getElem (by omega)⟩
   obtain ⟨b, hb⟩ : ∃ b, s.data.toList[s.size - 1]? = some b := ⟨_, List.getElem?_eq_getElem (by omega)⟩
   have hc : (decide (((s.size : Nat) : Int) < 3) || decide (((s.size : Nat) : Int) > 8)) = false := by
    rw [Bool.or_eq_false_iff]; exact ⟨decide_eq_false (by omega), decide_eq_false (by omega)⟩
   have hb0 : btI s 0 = some a := by have := ZeB s 0; rw [ha] at this; exact this
   have e1 : IntKind.i64.wrap (((s.size : Nat) : Int) - 1) = ((s.size - 1 : Nat) : Int) := by rw [w64 (by omega) (by omega)]; omega
   rw [ZBK (by omega) (by omega) ha (by rw [hlen]; exact hb), hc, orF, hb0, Zn, Zn, show (40 : Int) = ((40 : Nat) : Int) from rfl, bne, ZdU]
   cases h40 : (a.toNat == 40) with
   | false => rw [Bool.not_false, orT, ifT]; rfl
   | true =>
    rw [Bool.not_true, orF, e1, ZeB, hb, Zn, Zn, show (41 : Int) = ((41 : Nat) : Int) from rfl, bne, ZdU]
    cases h41 : (b.toNat == 41) with
    | false => rw [Bool.not_false, ifT]; rfl
    | true =>
     have hsl : slS s 1 ((s.size - 1 : Nat) : Int) = some (s.extract 1 (s.size - 1)) := Zom s 1 (s.size - 1) (by omega) (by omega)
     rw [Bool.not_true, ifF, hsl, Zn, ZA0 _ _ 0 rfl, List.drop_zero, Zfp, hlen, show s.size - 1 - 1 = s.size - 2 from by omega]; rfl
  ·have hc : (decide (((s.size : Nat) : Int) < 3) || decide (((s.size : Nat) : Int) > 8)) = true := by
    rw [Bool.or_eq_true, decide_eq_true_iff, decide_eq_true_iff]; omega
   rw [hc, orT, orT, ifT]
   have : Zsc s.data.toList = false := by
    cases h : Zsc s.data.toList with
    | false => rfl
    | true =>
     unfold Zsc at h
     rw [List.any_eq_true] at h
     obtain ⟨j, hj, h⟩ := h
     rw [beq_iff_eq] at h
     have hl := congrArg List.length h
     rw [ZuE, sz] at hl
     have := List.mem_range.1 hj
     omega
   rw [this]

theorem ZIk (n : Nat) (hn : n ≤ 1000) : ∀ (d i : Nat) (s : ByteArray), n - i = d → i ≤ n → s.size ≤ i + 1 → Zay ((n : Nat) : Int) s i = some (mkB (s.data.toList ++ (List.replicate (n - i) 44 ++ [41]))) := by
 have e41 : (ByteArray.mk #[41]).size = 1 := rfl
 have e44 : (ByteArray.mk #[44]).size = 1 := rfl
 intro d
 induction d with
 | zero =>
  intro i s hd hi hs
  rw [Zay, if_neg (by rw [decide_eq_true_iff]; omega), Zdd _ (by rw [Zpr, e41]; omega), show n - i = 0 from by omega]
  exact congrArg some (ZfB (by rw [Zm5, Zew]; rfl))
 | succ d ih =>
  intro i s hd hi hs
  rw [Zay, if_pos (by rw [decide_eq_true_iff]; omega), Zdd _ (by rw [Zpr, e44]; omega), Zdd _ (by omega), ih (i + 1) _ (by omega) (by omega) (by rw [Zro, e44]; omega)]
  congr 2
  rw [Zm5, show n - i = (n - (i + 1)) + 1 from by omega, List.replicate_succ, List.append_assoc]; rfl
theorem tn (n : Nat) (h1 : 1 ≤ n) (hn : n ≤ 1000) : Zcg ((n : Nat) : Int) = some (mkB (Ztq (n - 1))) := by
 unfold Zcg
 rw [ZIk n hn _ 1 _ rfl h1 (by decide)]
 rfl
theorem ZHK (s : ByteArray) : ∀ (d k : Nat), 8 - k = d → 2 ≤ k → k ≤ 8 → ∃ r, Zbf s k = some r ∧ decide (r > 0) = (List.range' k (8 - k)).any fun j => s.data.toList == Ztq (j - 1) := by
 intro d
 induction d with
 | zero =>
  intro k hd h2 h8
  refine ⟨0, ?_, ?_⟩
  ·rw [Zbf, if_neg (by rw [decide_eq_true_iff]; omega)]
  ·rw [hd]; rfl
 | succ d ih =>
  intro k hd h2 h8
  obtain ⟨r, hr, hr2⟩ := ih (k + 1) (by omega) (by omega) (by omega)
  rw [Zbf, if_pos (by rw [decide_eq_true_iff]; omega), tn k (by omega) (by omega), Zn, Za0, Za0, Zew]
  have e : List.range' k (8 - k) = k :: List.range' (k + 1) (8 - (k + 1)) := by rw [show 8 - k = (8 - (k + 1)) + 1 from by omega]; exact List.range'_succ ..
  rw [e, List.any_cons]
  cases h : (s.data.toList == Ztq (k - 1)) with
  | true => exact ⟨_, by rw [ifT], by rw [Bool.true_or]; exact decide_eq_true (by omega)⟩
  | false => exact ⟨r, by rw [ifF, Zdd _ (by omega), hr], by rw [Bool.false_or, hr2]⟩
theorem ZAZ (s : ByteArray) : ∃ r, ZdS s = some r ∧ decide (r > 0) = Zsc s.data.toList := by
 obtain ⟨r, h1, h2⟩ := ZHK s 6 2 rfl (by omega) (by omega)
 refine ⟨r, h1, h2.trans ?_⟩
 unfold Zsc
 rfl
def ZxN (s : ByteArray) : Bool := (Zvb s.data.toList || Zsc s.data.toList) || Zvq s
theorem ZGq (s : ByteArray) (hs : s.size ≤ 1000000000) : ZcK s = some (ZxN s) := by
 unfold ZcK ZxN
 have e0 : ∀ o : Bool, (((o || (s.toList == (ByteArray.mk #[45, 62]).toList)) || (s.toList == (ByteArray.mk #[91, 93]).toList)) || (s.toList == (ByteArray.mk #[40, 41]).toList)) = (o || Zvb s.data.toList) := fun o => by
  rw [Za0, Za0, Za0, Za0]
  unfold Zvb
  simp only [Bool.or_assoc]
 obtain ⟨r, h1, h2⟩ := ZAZ s
 rw [ZFC s hs, Zn, e0, h1]
 cases Zvq s with
 | true => rw [Bool.true_or, orT, Bool.or_true]
 | false =>
  rw [Bool.false_or, Bool.or_false]
  cases Zvb s.data.toList with
  | true => rfl
  | false => rw [orF, Zn, Zn, h2, Bool.false_or]

mutual
def Za.nod : Za → Nat | .mk _ _ _ ks => 1 + Za.nods ks
def Za.nods : List Za → Nat
 | [] => 0
 | k :: ks => Za.nod k + Za.nods ks
end
mutual
def Zk.nod : Zk → Nat | .mk ks => 1 + Zk.nods ks
def Zk.nods : List Zk → Nat
 | [] => 0
 | k :: ks => Zk.nod k + Zk.nods ks
end
theorem Zpj (t : Za) : t.nod = 1 + Za.nods t.fKids := by cases t; rw [Za.nod]; rfl
theorem Zlf (t : Zk) : t.nod = 1 + Zk.nods t.fArgs := by cases t; rw [Zk.nod]; rfl
theorem Zhd (k : Za) (ks : List Za) : Za.nods (k :: ks) = k.nod + Za.nods ks := by rw [Za.nods]
theorem Zg3 (k : Zk) (ks : List Zk) : Zk.nods (k :: ks) = k.nod + Zk.nods ks := by rw [Zk.nods]
def BIG : Nat := 1000000000000
theorem ZuR (t : Za) : ∀ (xs : List Za) (n x : Nat), (∀ k ∈ xs, k.nod ≤ BIG → ZcD k = some ((k.nod : Nat) : Int)) → n + Za.nods xs ≤ BIG → ZcU ((n : Nat) : Int) t x xs = some ((n + Za.nods xs : Nat) : Int)
 | [], n, x, _, _ => by rw [ZcU, Za.nods]; rfl
 | k :: xs, n, x, h, hb => by
  rw [Zhd] at hb ⊢
  have hB : BIG = 1000000000000 := rfl
  rw [ZcU, h k (by simp) (by omega), Zn, w64 (by omega) (by omega)]
  have := ZuR t xs (n + k.nod) (x + 1) (fun j hj => h j (by simp [hj])) (by omega)
  rw [show ((n : Nat) : Int) + ((k.nod : Nat) : Int) = ((n + k.nod : Nat) : Int) from by omega, this, Nat.add_assoc]
theorem Zzb (t : Za) : t.nod ≤ BIG → ZcD t = some ((t.nod : Nat) : Int) := by
 refine Za.ind (M := fun t => t.nod ≤ BIG → ZcD t = some ((t.nod : Nat) : Int)) (fun v ih hb => ?_) t
 rw [Zpj] at hb ⊢
 rw [ZcD]
 exact ZuR v v.fKids 1 0 ih hb
theorem Zvl (t : Za) : ∀ (xs : List Za) (n x : Nat), (∀ k ∈ xs, k.nod ≤ BIG → ZaN k = some ((k.nod : Nat) : Int)) → n + Za.nods xs ≤ BIG → Za4 ((n : Nat) : Int) x t xs = some ((n + Za.nods xs : Nat) : Int)
 | [], n, x, _, _ => by rw [Za4, Za.nods]; rfl
 | k :: xs, n, x, h, hb => by
  rw [Zhd] at hb ⊢
  have hB : BIG = 1000000000000 := rfl
  rw [Za4, h k (by simp) (by omega), Zn, w64 (by omega) (by omega)]
  have := Zvl t xs (n + k.nod) (x + 1) (fun j hj => h j (by simp [hj])) (by omega)
  rw [show ((n : Nat) : Int) + ((k.nod : Nat) : Int) = ((n + k.nod : Nat) : Int) from by omega, this, Nat.add_assoc]
theorem ZvJ (t : Za) : t.nod ≤ BIG → ZaN t = some ((t.nod : Nat) : Int) := by
 refine Za.ind (M := fun t => t.nod ≤ BIG → ZaN t = some ((t.nod : Nat) : Int)) (fun v ih hb => ?_) t
 rw [Zpj] at hb ⊢
 rw [ZaN]
 exact Zvl v v.fKids 1 0 ih hb
theorem ZsX (t : Zk) : ∀ (xs : List Zk) (n x : Nat), (∀ k ∈ xs, k.nod ≤ BIG → ZbQ k = some ((k.nod : Nat) : Int)) → n + Zk.nods xs ≤ BIG → Zbs ((n : Nat) : Int) t x xs = some ((n + Zk.nods xs : Nat) : Int)
 | [], n, x, _, _ => by rw [Zbs, Zk.nods]; rfl
 | k :: xs, n, x, h, hb => by
  rw [Zg3] at hb ⊢
  have hB : BIG = 1000000000000 := rfl
  rw [Zbs, h k (by simp) (by omega), Zn, w64 (by omega) (by omega)]
  have := ZsX t xs (n + k.nod) (x + 1) (fun j hj => h j (by simp [hj])) (by omega)
  rw [show ((n : Nat) : Int) + ((k.nod : Nat) : Int) = ((n + k.nod : Nat) : Int) from by omega, this, Nat.add_assoc]
theorem ZA9 (t : Zk) : t.nod ≤ BIG → ZbQ t = some ((t.nod : Nat) : Int) := by
 refine Zk.ind (M := fun t => t.nod ≤ BIG → ZbQ t = some ((t.nod : Nat) : Int)) (fun v ih hb => ?_) t
 rw [Zlf] at hb ⊢
 rw [ZbQ]
 exact ZsX v v.fArgs 1 0 ih hb
theorem Zs1 (t : Zk) : ∀ (xs : List Zk) (n x : Nat), (∀ k ∈ xs, k.nod ≤ BIG → Zav k = some ((k.nod : Nat) : Int)) → n + Zk.nods xs ≤ BIG → Zat ((n : Nat) : Int) x t xs = some ((n + Zk.nods xs : Nat) : Int)
 | [], n, x, _, _ => by rw [Zat, Zk.nods]; rfl
 | k :: xs, n, x, h, hb => by
  rw [Zg3] at hb ⊢
  have hB : BIG = 1000000000000 := rfl
  rw [Zat, h k (by simp) (by omega), Zn, w64 (by omega) (by omega)]
  have := Zs1 t xs (n + k.nod) (x + 1) (fun j hj => h j (by simp [hj])) (by omega)
  rw [show ((n : Nat) : Int) + ((k.nod : Nat) : Int) = ((n + k.nod : Nat) : Int) from by omega, this, Nat.add_assoc]
theorem ZBL (t : Zk) : t.nod ≤ BIG → Zav t = some ((t.nod : Nat) : Int) := by
 refine Zk.ind (M := fun t => t.nod ≤ BIG → Zav t = some ((t.nod : Nat) : Int)) (fun v ih hb => ?_) t
 rw [Zlf] at hb ⊢
 rw [Zav]
 exact Zs1 v v.fArgs 1 0 ih hb

mutual
def Za.dep : Za → Nat | .mk _ _ _ ks => Za.deps ks + 1
def Za.deps : List Za → Nat
 | [] => 0
 | k :: ks => max (Za.dep k) (Za.deps ks)
end
mutual
def Zk.dep : Zk → Nat | .mk ks => Zk.deps ks + 1
def Zk.deps : List Zk → Nat
 | [] => 0
 | k :: ks => max (Zk.dep k) (Zk.deps ks)
end
theorem Zvt (t : Za) : t.dep = Za.deps t.fKids + 1 := by cases t; rw [Za.dep]; rfl
theorem ZtX (t : Zk) : t.dep = Zk.deps t.fArgs + 1 := by cases t; rw [Zk.dep]; rfl
theorem ZkH (k : Za) (ks : List Za) : Za.deps (k :: ks) = max k.dep (Za.deps ks) := by rw [Za.deps]
theorem Zn2 (k : Zk) (ks : List Zk) : Zk.deps (k :: ks) = max k.dep (Zk.deps ks) := by rw [Zk.deps]
theorem Zw4 (t : Za) : t.dep ≤ t.nod := by
 refine Za.ind (M := fun t => t.dep ≤ t.nod) (fun v ih => ?_) t
 have key : ∀ l : List Za, (∀ k ∈ l, k.dep ≤ k.nod) → Za.deps l ≤ Za.nods l := fun l => by
  induction l with
  | nil => intro _; rw [Za.deps, Za.nods]; exact Nat.le_refl _
  | cons k ks ihl => intro h; rw [ZkH, Zhd]; have h1 := h k (by simp); have h2 := ihl fun j hj => h j (by simp [hj]); omega
 have := key v.fKids ih
 rw [Zvt, Zpj]; omega
theorem Zuu (t : Zk) : t.dep ≤ t.nod := by
 refine Zk.ind (M := fun t => t.dep ≤ t.nod) (fun v ih => ?_) t
 have key : ∀ l : List Zk, (∀ k ∈ l, k.dep ≤ k.nod) → Zk.deps l ≤ Zk.nods l := fun l => by
  induction l with
  | nil => intro _; rw [Zk.deps, Zk.nods]; exact Nat.le_refl _
  | cons k ks ihl => intro h; rw [Zn2, Zg3]; have h1 := h k (by simp); have h2 := ihl fun j hj => h j (by simp [hj]); omega
 have := key v.fArgs ih
 rw [ZtX, Zlf]; omega
theorem ZgY (a b : Nat) : (if ((a : Nat) : Int) > ((b : Nat) : Int) then ((a : Nat) : Int) else ((b : Nat) : Int)) = ((max b a : Nat) : Int) := by
 split <;> omega
theorem Zsp (t : Za) : ∀ (xs : List Za) (n x : Nat), (∀ k ∈ xs, k.nod ≤ BIG → Zci k = some ((k.dep : Nat) : Int)) → Za.nods xs ≤ BIG → n ≤ BIG → Zcr ((n : Nat) : Int) t x xs = some ((max n (Za.deps xs) + 1 : Nat) : Int)
 | [], n, x, _, _, hn => by
  have hB : BIG = 1000000000000 := rfl
  rw [Zcr, Za.deps, w64 (by omega) (by omega)]
  rw [Nat.max_eq_left (Nat.zero_le _)]; rfl
 | k :: xs, n, x, h, hb, hn => by
  rw [Zhd] at hb
  rw [ZkH]
  have hd := Zw4 k
  have hB : BIG = 1000000000000 := rfl
  rw [Zcr, h k (by simp) (by omega), Zn, ZgY]
  rw [Zsp t xs (max n k.dep) (x + 1) (fun j hj => h j (by simp [hj])) (by omega) (by omega), Nat.max_assoc]
theorem Zw7 (t : Za) : t.nod ≤ BIG → Zci t = some ((t.dep : Nat) : Int) := by
 refine Za.ind (M := fun t => t.nod ≤ BIG → Zci t = some ((t.dep : Nat) : Int)) (fun v ih hb => ?_) t
 rw [Zpj] at hb
 rw [Zvt, Zci]
 have := Zsp v v.fKids 0 0 ih (by omega) (Nat.zero_le _)
 rw [Nat.max_eq_right (Nat.zero_le _)] at this
 exact this
theorem ZsR (t : Za) : ∀ (xs : List Za) (n x : Nat), (∀ k ∈ xs, k.nod ≤ BIG → ZaG k = some ((k.dep : Nat) : Int)) → Za.nods xs ≤ BIG → n ≤ BIG → ZaU ((n : Nat) : Int) x t xs = some ((max n (Za.deps xs) + 1 : Nat) : Int)
 | [], n, x, _, _, hn => by
  have hB : BIG = 1000000000000 := rfl
  rw [ZaU, Za.deps, w64 (by omega) (by omega)]
  rw [Nat.max_eq_left (Nat.zero_le _)]; rfl
 | k :: xs, n, x, h, hb, hn => by
  rw [Zhd] at hb
  rw [ZkH]
  have hd := Zw4 k
  have hB : BIG = 1000000000000 := rfl
  rw [ZaU, h k (by simp) (by omega), Zn, ZgY]
  rw [ZsR t xs (max n k.dep) (x + 1) (fun j hj => h j (by simp [hj])) (by omega) (by omega), Nat.max_assoc]
theorem ZtH (t : Za) : t.nod ≤ BIG → ZaG t = some ((t.dep : Nat) : Int) := by
 refine Za.ind (M := fun t => t.nod ≤ BIG → ZaG t = some ((t.dep : Nat) : Int)) (fun v ih hb => ?_) t
 rw [Zpj] at hb
 rw [Zvt, ZaG]
 have := ZsR v v.fKids 0 0 ih (by omega) (Nat.zero_le _)
 rw [Nat.max_eq_right (Nat.zero_le _)] at this
 exact this
theorem ZrX (t : Zk) : ∀ (xs : List Zk) (n x : Nat), (∀ k ∈ xs, k.nod ≤ BIG → Zbt k = some ((k.dep : Nat) : Int)) → Zk.nods xs ≤ BIG → n ≤ BIG → Za5 ((n : Nat) : Int) t x xs = some ((max n (Zk.deps xs) + 1 : Nat) : Int)
 | [], n, x, _, _, hn => by
  have hB : BIG = 1000000000000 := rfl
  rw [Za5, Zk.deps, w64 (by omega) (by omega)]
  rw [Nat.max_eq_left (Nat.zero_le _)]; rfl
 | k :: xs, n, x, h, hb, hn => by
  rw [Zg3] at hb
  rw [Zn2]
  have hd := Zuu k
  have hB : BIG = 1000000000000 := rfl
  rw [Za5, h k (by simp) (by omega), Zn, ZgY]
  rw [ZrX t xs (max n k.dep) (x + 1) (fun j hj => h j (by simp [hj])) (by omega) (by omega), Nat.max_assoc]
theorem Zz2 (t : Zk) : t.nod ≤ BIG → Zbt t = some ((t.dep : Nat) : Int) := by
 refine Zk.ind (M := fun t => t.nod ≤ BIG → Zbt t = some ((t.dep : Nat) : Int)) (fun v ih hb => ?_) t
 rw [Zlf] at hb
 rw [ZtX, Zbt]
 have := ZrX v v.fArgs 0 0 ih (by omega) (Nat.zero_le _)
 rw [Nat.max_eq_right (Nat.zero_le _)] at this
 exact this
theorem ZrF (t : Zk) : ∀ (xs : List Zk) (n x : Nat), (∀ k ∈ xs, k.nod ≤ BIG → Zan k = some ((k.dep : Nat) : Int)) → Zk.nods xs ≤ BIG → n ≤ BIG → Zaj ((n : Nat) : Int) x t xs = some ((max n (Zk.deps xs) + 1 : Nat) : Int)
 | [], n, x, _, _, hn => by
  have hB : BIG = 1000000000000 := rfl
  rw [Zaj, Zk.deps, w64 (by omega) (by omega)]
  rw [Nat.max_eq_left (Nat.zero_le _)]; rfl
 | k :: xs, n, x, h, hb, hn => by
  rw [Zg3] at hb
  rw [Zn2]
  have hd := Zuu k
  have hB : BIG = 1000000000000 := rfl
  rw [Zaj, h k (by simp) (by omega), Zn, ZgY]
  rw [ZrF t xs (max n k.dep) (x + 1) (fun j hj => h j (by simp [hj])) (by omega) (by omega), Nat.max_assoc]
theorem ZzL (t : Zk) : t.nod ≤ BIG → Zan t = some ((t.dep : Nat) : Int) := by
 refine Zk.ind (M := fun t => t.nod ≤ BIG → Zan t = some ((t.dep : Nat) : Int)) (fun v ih hb => ?_) t
 rw [Zlf] at hb
 rw [ZtX, Zan]
 have := ZrF v v.fArgs 0 0 ih (by omega) (Nat.zero_le _)
 rw [Nat.max_eq_right (Nat.zero_le _)] at this
 exact this

mutual
def Za.vol : Za → Nat | .mk _ s b ks => 1 + s.size + b.nod + Za.vols ks
def Za.vols : List Za → Nat
 | [] => 0
 | k :: ks => Za.vol k + Za.vols ks
end
mutual
def Za.gks : Za → Nat | .mk _ _ b ks => max b.nod (Za.gkss ks)
def Za.gkss : List Za → Nat
 | [] => 0
 | k :: ks => max (Za.gks k) (Za.gkss ks)
end
mutual
def Za.gkd : Za → Nat | .mk _ _ b ks => max b.dep (Za.gkds ks)
def Za.gkds : List Za → Nat
 | [] => 0
 | k :: ks => max (Za.gkd k) (Za.gkds ks)
end
mutual
def Za.nmx : Za → Nat | .mk _ s _ ks => max s.size (Za.nmxs ks)
def Za.nmxs : List Za → Nat
 | [] => 0
 | k :: ks => max (Za.nmx k) (Za.nmxs ks)
end
theorem ZtU (t : Za) : t.nmx = max t.fName.size (Za.nmxs t.fKids) := by cases t; rw [Za.nmx]; rfl
theorem Zjo (k : Za) (ks : List Za) : Za.nmxs (k :: ks) = max k.nmx (Za.nmxs ks) := by rw [Za.nmxs]
theorem ZtN {k : Za} : ∀ {l : List Za}, k ∈ l → k.nmx ≤ Za.nmxs l
 | j :: l, h => by
  rw [Zjo]
  rcases List.mem_cons.1 h with rfl | h
  ·omega
  ·have := ZtN h; omega
theorem Zn6 (t : Za) : t.vol = 1 + t.fName.size + t.fBound.nod + Za.vols t.fKids := by cases t; rw [Za.vol]; rfl
theorem ZyL (t : Za) : t.gks = max t.fBound.nod (Za.gkss t.fKids) := by cases t; rw [Za.gks]; rfl
theorem Zyz (t : Za) : t.gkd = max t.fBound.dep (Za.gkds t.fKids) := by cases t; rw [Za.gkd]; rfl
theorem Zjn (k : Za) (ks : List Za) : Za.vols (k :: ks) = k.vol + Za.vols ks := by rw [Za.vols]
theorem Znm (k : Za) (ks : List Za) : Za.gkss (k :: ks) = max k.gks (Za.gkss ks) := by rw [Za.gkss]
theorem Znj (k : Za) (ks : List Za) : Za.gkds (k :: ks) = max k.gkd (Za.gkds ks) := by rw [Za.gkds]
theorem Zqu {k : Za} : ∀ {l : List Za}, k ∈ l → k.vol ≤ Za.vols l
 | j :: l, h => by
  rw [Zjn]
  rcases List.mem_cons.1 h with rfl | h
  ·omega
  ·have := Zqu h; omega
theorem ZoF (t : Za) : t.nod ≤ t.vol := by
 refine Za.ind (M := fun t => t.nod ≤ t.vol) (fun v ih => ?_) t
 have key : ∀ l : List Za, (∀ k ∈ l, k.nod ≤ k.vol) → Za.nods l ≤ Za.vols l := fun l => by
  induction l with
  | nil => intro _; rw [Za.nods, Za.vols]; exact Nat.le_refl _
  | cons k ks ihl => intro h; rw [Zhd, Zjn]; have h1 := h k (by simp); have h2 := ihl fun j hj => h j (by simp [hj]); omega
 have := key v.fKids ih
 rw [Zpj, Zn6]; omega
theorem ZtC (t : Za) : t.nmx ≤ t.vol := by
 refine Za.ind (M := fun t => t.nmx ≤ t.vol) (fun v ih => ?_) t
 have key : ∀ l : List Za, (∀ k ∈ l, k.nmx ≤ k.vol) → Za.nmxs l ≤ Za.vols l := fun l => by
  induction l with
  | nil => intro _; rw [Za.nmxs, Za.vols]; exact Nat.le_refl _
  | cons k ks ihl => intro h; rw [Zjo, Zjn]; have h1 := h k (by simp); have h2 := ihl fun j hj => h j (by simp [hj]); omega
 have := key v.fKids ih
 rw [ZtU, Zn6]; omega
theorem Zxg (t : Za) : ∀ (xs : List Za) (n x : Nat), (∀ k ∈ xs, ZG k = some ((k.gks : Nat) : Int)) → ZL ((n : Nat) : Int) t x xs = some ((max n (Za.gkss xs) : Nat) : Int)
 | [], n, x, _ => by rw [ZL, Za.gkss, Nat.max_eq_left (Nat.zero_le _)]
 | k :: xs, n, x, h => by
  rw [ZL, h k (by simp), Zn, ZgY, Zxg t xs _ _ (fun j hj => h j (by simp [hj])), Znm, Nat.max_assoc]
theorem ZFf (t : Za) : t.vol ≤ BIG → ZG t = some ((t.gks : Nat) : Int) := by
 refine Za.ind (M := fun t => t.vol ≤ BIG → ZG t = some ((t.gks : Nat) : Int)) (fun v ih hb => ?_) t
 rw [Zn6] at hb
 rw [ZG, ZA9 _ (by omega), Zn, Zxg v v.fKids _ 0 (fun k hk => ih k hk (by have := Zqu hk; omega)), ZyL]
theorem Zw1 (t : Za) : ∀ (xs : List Za) (n x : Nat), (∀ k ∈ xs, ZE k = some ((k.gkd : Nat) : Int)) → ZI ((n : Nat) : Int) t x xs = some ((max n (Za.gkds xs) : Nat) : Int)
 | [], n, x, _ => by rw [ZI, Za.gkds, Nat.max_eq_left (Nat.zero_le _)]
 | k :: xs, n, x, h => by
  rw [ZI, h k (by simp), Zn, ZgY, Zw1 t xs _ _ (fun j hj => h j (by simp [hj])), Znj, Nat.max_assoc]
theorem ZFl (t : Za) : t.vol ≤ BIG → ZE t = some ((t.gkd : Nat) : Int) := by
 refine Za.ind (M := fun t => t.vol ≤ BIG → ZE t = some ((t.gkd : Nat) : Int)) (fun v ih hb => ?_) t
 rw [Zn6] at hb
 rw [ZE, Zz2 _ (by omega), Zn, Zw1 v v.fKids _ 0 (fun k hk => ih k hk (by have := Zqu hk; omega)), Zyz]
theorem Zs3 (t : Za) : ∀ (xs : List Za) (a b x : Nat), (∀ k ∈ xs, Za2 k = some (((k.gks : Nat) : Int), ((k.gkd : Nat) : Int))) → ZaV ((a : Nat) : Int) ((b : Nat) : Int) x t xs = some (((max a (Za.gkss xs) : Nat) : Int), ((max b (Za.gkds xs) : Nat) : Int))
 | [], a, b, x, _ => by rw [ZaV, Za.gkss, Za.gkds, Nat.max_eq_left (Nat.zero_le _), Nat.max_eq_left (Nat.zero_le _)]
 | k :: xs, a, b, x, h => by
  rw [ZaV, h k (by simp), Zn, ZgY, ZgY, Zs3 t xs _ _ _ (fun j hj => h j (by simp [hj])), Znm, Znj, Nat.max_assoc, Nat.max_assoc]
theorem ZA1 (t : Za) : t.vol ≤ BIG → Za2 t = some (((t.gks : Nat) : Int), ((t.gkd : Nat) : Int)) := by
 refine Za.ind (M := fun t => t.vol ≤ BIG → Za2 t = some (((t.gks : Nat) : Int), ((t.gkd : Nat) : Int))) (fun v ih hb => ?_) t
 rw [Zn6] at hb
 rw [Za2, ZBL _ (by omega), Zn, ZzL _ (by omega), Zn, Zs3 v v.fKids _ _ 0 (fun k hk => ih k hk (by have := Zqu hk; omega)), ZyL, Zyz]

def Zlb (t : Za) : Bool :=
 if t.fOp = 1 then Zl5 t.fName && decide (t.fBound.fArgs.length = 0) && decide (t.fKids.length = 0)
 else if t.fOp = 2 then ZxN t.fName && decide (t.fBound.fArgs.length = 0) && decide (t.fKids.length = 0)
 else if t.fOp = 3 then decide (t.fName.size = 0) && decide (t.fBound.fArgs.length = 0) && decide (t.fKids.length = 2)
 else if t.fOp = 4 then Zl5 t.fName && decide (t.fKids.length = 1) else false
mutual
def Za.fms : Za → Bool | .mk o s b ks => Za.fmss ks && Zlb (.mk o s b ks)
def Za.fmss : List Za → Bool
 | [] => true
 | k :: ks => Za.fms k && Za.fmss ks
end
theorem Zv7 (t : Za) : t.fms = (Za.fmss t.fKids && Zlb t) := by cases t; rw [Za.fms]; rfl
theorem Zjm (k : Za) (ks : List Za) : Za.fmss (k :: ks) = (k.fms && Za.fmss ks) := by rw [Za.fmss]
theorem ZmI (a b : Nat) : (((a : Nat) : Int) == ((b : Nat) : Int)) = decide (a = b) := by rw [ZdU, Bool.eq_iff_iff, beq_iff_eq, decide_eq_true_iff]
theorem ZCT (a b : Int) : ((a == b) = true) = (a = b) := by rw [beq_iff_eq]
theorem ZuD (t : Za) (ht : t.fName.size ≤ 1000000000) : ∀ (xs : List Za) (x : Nat), (∀ k ∈ xs, ZaQ k = some k.fms) → ZaL x t xs = some (Za.fmss xs && Zlb t)
 | [], x, _ => by
  have e0 := ZmI t.fBound.fArgs.length 0
  have e1 := ZmI t.fKids.length 0
  have e2 := ZmI t.fKids.length 2
  have e3 := ZmI t.fKids.length 1
  simp only [Int.natCast_zero, Int.cast_ofNat_Int] at e0 e1 e2 e3
  rw [ZaL, Za.fmss, Bool.true_and]
  unfold Zlb
  simp only [ZCT]
  rw [ZBM _ ht, ZGq _ ht, Znk]
  split
  ·rw [Zn, e0, e1]
  ·split
   ·rw [Zn, e0, e1]
   ·split
    ·rw [e0, e2]
    ·split
     ·rw [Zn, e3]
     ·rfl
 | k :: xs, x, h => by
  rw [ZaL, h k (by simp), Zn, Zjm]
  cases k.fms with
  | false => rfl
  | true => rw [Bool.not_true, ifF, ZuD t ht xs _ (fun j hj => h j (by simp [hj])), Bool.true_and]
theorem ZDZ (t : Za) : t.nmx ≤ 1000000000 → ZaQ t = some t.fms := by
 refine Za.ind (M := fun t => t.nmx ≤ 1000000000 → ZaQ t = some t.fms) (fun v ih hb => ?_) t
 rw [ZtU] at hb
 rw [ZaQ, ZuD v (by omega) v.fKids 0 (fun k hk => ih k hk (by have := ZtN hk; omega)), Zv7]

theorem Zxy (s : List Za) : ∀ (xs : List Za) (x : Nat), (∀ k ∈ xs, Zb1 k = some k.fms) → ∃ r, Zz s x xs = some r ∧ decide (r ≥ 0) = !Za.fmss xs
 | [], x, _ => ⟨-1, by rw [Zz], by rw [Za.fmss]; rfl⟩
 | k :: xs, x, h => by
  obtain ⟨r, h1, h2⟩ := Zxy s xs (x + 1) (fun j hj => h j (by simp [hj]))
  have hk : Zdo k = some (!k.fms) := by rw [Zdo, h k (by simp), Zn]
  rw [Zz, hk, Zn, Zjm]
  cases k.fms with
  | false => exact ⟨_, by rw [Bool.not_false, ifT], decide_eq_true (by omega)⟩
  | true => exact ⟨r, by rw [Bool.not_true, ifF, h1], by rw [h2, Bool.true_and]⟩
theorem ZC8 (s : List Za) (h : ∀ k ∈ s, Zb1 k = some k.fms) : ZF s = some (!Za.fmss s) := by
 obtain ⟨r, h1, h2⟩ := Zxy s s 0 h
 rw [ZF, ZX, h1, Zn, h2]
theorem ZBJ (op : Int) : ∃ b, ZeN (ZhV (ZhV ([] : List (Int × Int)) 3 2) 4 1) 0 op = some ((if op = 3 then 2 else if op = 4 then 1 else 0), b) := by
 by_cases h3 : op = 3
 ·subst h3; exact ⟨_, rfl⟩
 ·by_cases h4 : op = 4
  ·subst h4; exact ⟨_, rfl⟩
  ·have e3 : (op == 3) = false := by rw [beq_eq_false_iff_ne]; exact h3
   have e4 : (op == 4) = false := by rw [beq_eq_false_iff_ne]; exact h4
   rw [if_neg h3, if_neg h4]
   refine ⟨false, ?_⟩
   have hm : ZhV (ZhV ([] : List (Int × Int)) 3 2) 4 1 = [(3, 2), (4, 1)] := rfl
   rw [hm]
   unfold ZeN
   simp only [ZfL, e3, e4, Bool.false_eq_true, if_false]

theorem ZDh (t : Za) : t.nmx ≤ 1000000000 → Zb1 t = some t.fms := by
 refine Za.ind (M := fun t => t.nmx ≤ 1000000000 → Zb1 t = some t.fms) (fun v ih hb => ?_) t
 rw [ZtU] at hb
 have hk : ∀ k ∈ v.fKids, Zb1 k = some k.fms := fun k hk => ih k hk (by have := ZtN hk; omega)
 have hs : v.fName.size ≤ 1000000000 := by omega
 obtain ⟨b, hlook⟩ := ZBJ v.fOp
 have hc := ZC8 v.fKids hk
 have e0 : decide (((v.fBound.fArgs.length : Nat) : Int) > 0) = !decide (v.fBound.fArgs.length = 0) := by
  by_cases h : v.fBound.fArgs.length = 0
  ·rw [decide_eq_true h]; exact decide_eq_false (by omega)
  ·rw [decide_eq_false h]; exact decide_eq_true (by omega)
 have ek : ∀ n : Nat, (((v.fKids.length : Nat) : Int) != ((n : Nat) : Int)) = !decide (v.fKids.length = n) := fun n => by rw [bne, ZmI]
 have ek0 := ek 0
 have ek1 := ek 1
 have ek2 := ek 2
 simp only [Int.natCast_zero, Int.cast_ofNat_Int] at ek0 ek1 ek2
 rw [Zb1, hlook, Zn, hc, Znk, e0, Zv7]
 unfold ZdL Zlb
 rw [ZAP _ hs, ZFz _ hs, ZGD _ hs]
 by_cases h1 : v.fOp = 1
 ·rw [h1]; simp only [Zn]
  simp only [ek0, show ((1 : Int) = 3) = False from by decide, show ((1 : Int) = 4) = False from by decide, if_false, if_true]
  cases decide (v.fBound.fArgs.length = 0) <;> cases decide (v.fKids.length = 0) <;> cases Za.fmss v.fKids <;> cases Zl5 v.fName <;> rfl
 ·by_cases h2 : v.fOp = 2
  ·rw [h2]; simp only [Zn]
   simp only [ek0, show ((2 : Int) = 3) = False from by decide, show ((2 : Int) = 4) = False from by decide, show ((2 : Int) = 1) = False from by decide, if_false, if_true]
   unfold ZxN
   cases decide (v.fBound.fArgs.length = 0) <;> cases decide (v.fKids.length = 0) <;> cases Za.fmss v.fKids <;> cases (Zvb v.fName.data.toList || Zsc v.fName.data.toList) <;> cases Zvq v.fName <;> rfl
  ·by_cases h3 : v.fOp = 3
   ·rw [h3]; simp only [Zn]
    simp only [ek2, show ((3 : Int) = 4) = False from by decide, show ((3 : Int) = 1) = False from by decide, show ((3 : Int) = 2) = False from by decide, if_false, if_true]
    cases decide (v.fBound.fArgs.length = 0) <;> cases decide (v.fKids.length = 2) <;> cases Za.fmss v.fKids <;> cases decide (v.fName.size = 0) <;> rfl
   ·by_cases h4 : v.fOp = 4
    ·rw [h4]; simp only [Zn]
     simp only [ek1, show ((4 : Int) = 3) = False from by decide, show ((4 : Int) = 1) = False from by decide, show ((4 : Int) = 2) = False from by decide, if_false, if_true]
     cases decide (v.fBound.fArgs.length = 0) <;> cases decide (v.fKids.length = 1) <;> cases Za.fmss v.fKids <;> cases Zl5 v.fName <;> rfl
    ·have g1 : (v.fOp == 1) = false := by rw [beq_eq_false_iff_ne]; exact h1
     have g2 : (v.fOp == 2) = false := by rw [beq_eq_false_iff_ne]; exact h2
     have g3 : (v.fOp == 3) = false := by rw [beq_eq_false_iff_ne]; exact h3
     have g4 : (v.fOp == 4) = false := by rw [beq_eq_false_iff_ne]; exact h4
     have g5 : (v.fOp != 4) = true := by rw [bne, g4]; rfl
     simp only [Zn, g1, g2, g3, g4, g5, if_neg h1, if_neg h2, if_neg h3, if_neg h4, ek0]
     cases decide (v.fBound.fArgs.length = 0) <;> cases decide (v.fKids.length = 0) <;> cases Za.fmss v.fKids <;> rfl

def Zp6 (t : Za) : Int :=
 if t.fms = true then (if 20000 < t.nod ∨ 20000 < t.gks then 3 else if 100 < t.dep ∨ 100 < t.gkd then 4 else 0) else 1
theorem ZzC (a b : Prop) [Decidable a] [Decidable b] : (decide a || decide b) = decide (a ∨ b) := by
 rw [Bool.eq_iff_iff, Bool.or_eq_true, decide_eq_true_iff, decide_eq_true_iff, decide_eq_true_iff]
theorem Znd (a n : Nat) : decide (((a : Nat) : Int) > ((n : Nat) : Int)) = decide (n < a) := decide_eq_decide.2 (by omega)
theorem Zul (t : Za) (hm : t.nmx ≤ 1000000000) (h : t.vol ≤ 1000000000000) : Zcj t = some (Zp6 t) := by
 have hB : BIG = 1000000000000 := rfl
 have hn := ZoF t
 have g1 := Znd t.nod 20000
 have g2 := Znd t.gks 20000
 have g3 := Znd t.dep 100
 have g4 := Znd t.gkd 100
 simp only [Int.cast_ofNat_Int] at g1 g2 g3 g4
 unfold Zcj Zp6
 rw [ZDh t hm, Zn]
 cases t.fms with
 | false => rfl
 | true =>
  rw [Bool.not_true, ifF, ifT, Zzb t (by omega), Zn, ZFf t (by omega), Zn, g1, g2, Zw7 t (by omega), Zn, ZFl t (by omega), Zn, g3, g4]
  by_cases a1 : 20000 < t.nod
  ·rw [decide_eq_true a1, orT, ifT, if_pos (.inl a1)]
  ·rw [decide_eq_false a1, orF, Zn]
   by_cases a2 : 20000 < t.gks
   ·rw [decide_eq_true a2, ifT, if_pos (.inr a2)]
   ·rw [decide_eq_false a2, ifF, if_neg (show ¬ (20000 < t.nod ∨ 20000 < t.gks) from fun h => h.elim a1 a2)]
    by_cases a3 : 100 < t.dep
    ·rw [decide_eq_true a3, orT, ifT, if_pos (.inl a3)]
    ·rw [decide_eq_false a3, orF, Zn]
     by_cases a4 : 100 < t.gkd
     ·rw [decide_eq_true a4, ifT, if_pos (.inr a4)]
     ·rw [decide_eq_false a4, ifF, if_neg (show ¬ (100 < t.dep ∨ 100 < t.gkd) from fun h => h.elim a3 a4)]
theorem ZuI (t : Za) (hm : t.nmx ≤ 1000000000) (h : t.vol ≤ 1000000000000) : ZaI t = some (Zp6 t) := by
 have hB : BIG = 1000000000000 := rfl
 have hn := ZoF t
 have g1 := Znd t.nod 20000
 have g2 := Znd t.gks 20000
 have g3 := Znd t.dep 100
 have g4 := Znd t.gkd 100
 simp only [Int.cast_ofNat_Int] at g1 g2 g3 g4
 unfold ZaI Zp6
 rw [ZDZ t hm, Zn]
 cases t.fms with
 | false => rfl
 | true =>
  rw [Bool.not_true, ifF, ifT, ZA1 t (by omega), Zn, ZvJ t (by omega), Zn, g1, g2, ZtH t (by omega), Zn, g3, g4, ZzC, ZzC]
  by_cases a1 : 20000 < t.nod ∨ 20000 < t.gks
  ·rw [decide_eq_true a1, ifT, if_pos a1]
  ·rw [decide_eq_false a1, ifF, if_neg a1]
   by_cases a2 : 100 < t.dep ∨ 100 < t.gkd
   ·rw [decide_eq_true a2, ifT, if_pos a2]
   ·rw [decide_eq_false a2, ifF, if_neg a2]
theorem ZBh (t : Za) (h : t.vol ≤ 1000000000) : Zcj t = some (Zp6 t) := Zul t (Nat.le_trans (ZtC t) h) (by omega)
theorem ZBe (t : Za) (h : t.vol ≤ 1000000000) : ZaI t = some (Zp6 t) := ZuI t (Nat.le_trans (ZtC t) h) (by omega)

mutual
def Za.qnt : Za → Bool | .mk o _ _ ks => (o == 4) || Za.qnts ks
def Za.qnts : List Za → Bool
 | [] => false
 | k :: ks => Za.qnt k || Za.qnts ks
end
theorem ZvW (t : Za) : t.qnt = ((t.fOp == 4) || Za.qnts t.fKids) := by cases t; rw [Za.qnt]; rfl
theorem Zjk (k : Za) (ks : List Za) : Za.qnts (k :: ks) = (k.qnt || Za.qnts ks) := by rw [Za.qnts]
theorem Zwv (s : List Za) : ∀ (xs : List Za) (x : Nat), (∀ k ∈ xs, Za1 k = some k.qnt) → ∃ r, Zw s x xs = some r ∧ decide (r ≥ 0) = Za.qnts xs
 | [], x, _ => ⟨-1, by rw [Zw], by rw [Za.qnts]; rfl⟩
 | k :: xs, x, h => by
  obtain ⟨r, h1, h2⟩ := Zwv s xs (x + 1) (fun j hj => h j (by simp [hj]))
  rw [Zw, h k (by simp), Zn, Zjk]
  cases k.qnt with
  | true => exact ⟨_, by rw [ifT], decide_eq_true (by omega)⟩
  | false => exact ⟨r, by rw [ifF, h1], by rw [h2, Bool.false_or]⟩
theorem ZF7 (t : Za) : Za1 t = some t.qnt := by
 refine Za.ind (M := fun t => Za1 t = some t.qnt) (fun v ih => ?_) t
 obtain ⟨r, h1, h2⟩ := Zwv v.fKids v.fKids 0 ih
 rw [Za1, ZvW]
 cases v.fOp == 4 with
 | true => rfl
 | false => rw [ZM, ZS, h1, Zn, h2, Bool.false_or]; rfl
theorem ZwR (t : Za) : ∀ (xs : List Za) (x : Nat), (∀ k ∈ xs, Zaf k = some k.qnt) → Zad x t xs = some (Za.qnts xs || (t.fOp == 4))
 | [], x, _ => by rw [Zad, Za.qnts, Bool.false_or]
 | k :: xs, x, h => by
  rw [Zad, h k (by simp), Zn, Zjk]
  cases k.qnt with
  | true => rfl
  | false => rw [ifF, ZwR t xs _ (fun j hj => h j (by simp [hj])), Bool.false_or]
theorem ZFq (t : Za) : Zaf t = some t.qnt := by
 refine Za.ind (M := fun t => Zaf t = some t.qnt) (fun v ih => ?_) t
 rw [Zaf, ZwR v v.fKids 0 ih, ZvW, Bool.or_comm]
def Zpa (t : Za) : Bool := (Zp6 t == 0) && !t.qnt
theorem ZBQ (t : Za) (h : t.vol ≤ 1000000000) : ZdW t = some (Zpa t) := by
 unfold ZdW Zpa
 rw [ZBh t h, Zn, ZF7]
 cases Zp6 t == 0 <;> rfl
theorem ZB0 (t : Za) (h : t.vol ≤ 1000000000) : Zcd t = some (Zpa t) := by
 unfold Zcd Zpa
 rw [ZBe t h, Zn, ZFq]
 cases Zp6 t == 0 <;> rfl
inductive ST where
 | v (s : ByteArray)
 | k (s : ByteArray)
 | a (f x : ST)
def ST.ty : ST → Za
 | .v s => Za.mk 1 s (Zk.mk []) []
 | .k s => Za.mk 2 s (Zk.mk []) []
 | .a f x => Za.mk 3 (ByteArray.mk #[]) (Zk.mk []) [f.ty, x.ty]
def ST.nod : ST → Nat
 | .v _ => 1
 | .k _ => 1
 | .a f x => 1 + f.nod + x.nod
def ST.dep : ST → Nat
 | .v _ => 1
 | .k _ => 1
 | .a f x => max f.dep x.dep + 1
def ST.nms : ST → Bool
 | .v s => Zl5 s && decide (s.size ≤ 1048576)
 | .k s => ZxN s && decide (s.size ≤ 1048576)
 | .a f x => f.nms && x.nms
theorem ZCW (k : Zk) (h : k.fArgs.length = 0) : k = Zk.mk [] := by
 cases k with | mk l => cases l with | nil => rfl | cons _ _ => cases h
theorem ZIn (s : ByteArray) (h : s.size = 0) : s = ByteArray.mk #[] := by
 apply ZfB
 have : s.data.toList.length = 0 := by rw [sz]; exact h
 rw [List.length_eq_zero_iff.1 this]
theorem ZE9 (t : Za) : t.nmx ≤ 1048576 → t.fms = true → t.qnt = false → ∃ s : ST, s.ty = t ∧ s.nms = true := by
 refine Za.ind (M := fun t => t.nmx ≤ 1048576 → t.fms = true → t.qnt = false → ∃ s : ST, s.ty = t ∧ s.nms = true) (fun v ih hb hf hq => ?_) t
 rw [ZtU] at hb
 rw [Zv7, Bool.and_eq_true] at hf
 rw [ZvW, Bool.or_eq_false_iff] at hq
 obtain ⟨h1, h2⟩ := hf
 obtain ⟨op, s, b, ks⟩ := v
 have hs : s.size ≤ 1048576 := by have : (Za.mk op s b ks).fName = s := rfl; rw [this] at hb; omega
 have hk : Za.nmxs ks ≤ 1048576 := by have : (Za.mk op s b ks).fKids = ks := rfl; rw [this] at hb; omega
 replace h1 : Za.fmss ks = true := h1
 replace hq : (op == 4) = false ∧ Za.qnts ks = false := hq
 unfold Zlb at h2
 have e1 : (Za.mk op s b ks).fOp = op := rfl
 have e2 : (Za.mk op s b ks).fName = s := rfl
 have e3 : (Za.mk op s b ks).fBound = b := rfl
 have e4 : (Za.mk op s b ks).fKids = ks := rfl
 rw [e1, e2, e3, e4] at h2
 by_cases o1 : op = 1
 ·rw [if_pos o1] at h2
  simp only [Bool.and_eq_true, decide_eq_true_eq] at h2
  obtain ⟨⟨h3, h4⟩, h5⟩ := h2
  refine ⟨.v s, ?_, by simp [ST.nms, h3, hs]⟩
  rw [ST.ty, ZCW b h4, List.length_eq_zero_iff.1 h5, o1]
 ·rw [if_neg o1] at h2
  by_cases o2 : op = 2
  ·rw [if_pos o2] at h2
   simp only [Bool.and_eq_true, decide_eq_true_eq] at h2
   obtain ⟨⟨h3, h4⟩, h5⟩ := h2
   refine ⟨.k s, ?_, by simp [ST.nms, h3, hs]⟩
   rw [ST.ty, ZCW b h4, List.length_eq_zero_iff.1 h5, o2]
  ·rw [if_neg o2] at h2
   by_cases o3 : op = 3
   ·rw [if_pos o3] at h2
    simp only [Bool.and_eq_true, decide_eq_true_eq] at h2
    obtain ⟨⟨h3, h4⟩, h5⟩ := h2
    match ks, h5, h1, hk, ih, hq.2 with
    | [f, x], _, h1, hk, ih, hq2 =>
     rw [Zjm, Zjm, Bool.and_eq_true, Bool.and_eq_true] at h1
     rw [Zjo, Zjo] at hk
     rw [Zjk, Zjk, Bool.or_eq_false_iff, Bool.or_eq_false_iff] at hq2
     obtain ⟨f', hf1, hf2⟩ := ih f (by simp [Za.fKids]) (by omega) h1.1 hq2.1
     obtain ⟨x', hx1, hx2⟩ := ih x (by simp [Za.fKids]) (by omega) h1.2.1 hq2.2.1
     refine ⟨.a f' x', ?_, by simp [ST.nms, hf2, hx2]⟩
     rw [ST.ty, hf1, hx1, ZCW b h4, ZIn s h3, o3]
   ·rw [if_neg o3] at h2
    have o4 : ¬ op = 4 := fun h => by rw [h] at hq; simp at hq
    rw [if_neg o4] at h2
    cases h2
theorem ZvM : ∀ s : ST, s.nms = true → s.ty.fms = true
 | .v s, h => by
  simp only [ST.nms, Bool.and_eq_true] at h
  rw [ST.ty, Za.fms, Za.fmss, Zlb, if_pos (show (Za.mk 1 s (Zk.mk []) []).fOp = 1 from rfl)]
  show (true && (Zl5 s && true && true)) = true
  rw [h.1]; rfl
 | .k s, h => by
  simp only [ST.nms, Bool.and_eq_true] at h
  rw [ST.ty, Za.fms, Za.fmss, Zlb, if_neg (show ¬ (Za.mk 2 s (Zk.mk []) []).fOp = 1 from fun h => absurd (show (2 : Int) = 1 from h) (by decide)), if_pos (show (Za.mk 2 s (Zk.mk []) []).fOp = 2 from rfl)]
  show (true && (ZxN s && true && true)) = true
  rw [h.1]; rfl
 | .a f x, h => by
  simp only [ST.nms, Bool.and_eq_true] at h
  rw [ST.ty, Za.fms, Zjm, Zjm, ZvM f h.1, ZvM x h.2, Za.fmss, Zlb]
  rfl
theorem Zkl : ∀ s : ST, s.ty.nod = s.nod
 | .v s => by rw [ST.ty, Za.nod, Za.nods, ST.nod]
 | .k s => by rw [ST.ty, Za.nod, Za.nods, ST.nod]
 | .a f x => by rw [ST.ty, Za.nod, Zhd, Zhd, Za.nods, ST.nod, Zkl f, Zkl x]; omega
theorem ZqM : ∀ s : ST, s.ty.dep = s.dep
 | .v s => by rw [ST.ty, Za.dep, Za.deps, ST.dep]
 | .k s => by rw [ST.ty, Za.dep, Za.deps, ST.dep]
 | .a f x => by rw [ST.ty, Za.dep, ZkH, ZkH, Za.deps, ST.dep, ZqM f, ZqM x]; omega
theorem Zwi : ∀ s : ST, s.ty.gks = 1
 | .v s => by rw [ST.ty, Za.gks, Za.gkss, Zk.nod, Zk.nods]; rfl
 | .k s => by rw [ST.ty, Za.gks, Za.gkss, Zk.nod, Zk.nods]; rfl
 | .a f x => by rw [ST.ty, Za.gks, Znm, Znm, Za.gkss, Zwi f, Zwi x, Zk.nod, Zk.nods]; rfl
theorem ZvT : ∀ s : ST, s.ty.gkd = 1
 | .v s => by rw [ST.ty, Za.gkd, Za.gkds, Zk.dep, Zk.deps]; rfl
 | .k s => by rw [ST.ty, Za.gkd, Za.gkds, Zk.dep, Zk.deps]; rfl
 | .a f x => by rw [ST.ty, Za.gkd, Znj, Znj, Za.gkds, ZvT f, ZvT x, Zk.dep, Zk.deps]; rfl
theorem Zvy : ∀ s : ST, s.ty.qnt = false
 | .v s => by rw [ST.ty, Za.qnt, Za.qnts]; rfl
 | .k s => by rw [ST.ty, Za.qnt, Za.qnts]; rfl
 | .a f x => by rw [ST.ty, Za.qnt, Zjk, Zjk, Za.qnts, Zvy f, Zvy x]; rfl
theorem Zt1 : ∀ s : ST, s.nms = true → s.ty.nmx ≤ 1048576
 | .v s, h => by
  simp only [ST.nms, Bool.and_eq_true, decide_eq_true_eq] at h
  rw [ST.ty, Za.nmx, Za.nmxs]; omega
 | .k s, h => by
  simp only [ST.nms, Bool.and_eq_true, decide_eq_true_eq] at h
  rw [ST.ty, Za.nmx, Za.nmxs]; omega
 | .a f x, h => by
  simp only [ST.nms, Bool.and_eq_true] at h
  have h1 := Zt1 f h.1
  have h2 := Zt1 x h.2
  have h3 : (ByteArray.mk #[]).size = 0 := rfl
  rw [ST.ty, Za.nmx, Zjo, Zjo, Za.nmxs]; omega
theorem Zru : ∀ s : ST, s.nms = true → s.ty.vol ≤ 1048578 * s.nod
 | .v s, h => by
  simp only [ST.nms, Bool.and_eq_true, decide_eq_true_eq] at h
  rw [ST.ty, Za.vol, Za.vols, Zk.nod, Zk.nods, ST.nod]; omega
 | .k s, h => by
  simp only [ST.nms, Bool.and_eq_true, decide_eq_true_eq] at h
  rw [ST.ty, Za.vol, Za.vols, Zk.nod, Zk.nods, ST.nod]; omega
 | .a f x, h => by
  simp only [ST.nms, Bool.and_eq_true] at h
  have h1 := Zru f h.1
  have h2 := Zru x h.2
  have h3 : (ByteArray.mk #[]).size = 0 := rfl
  rw [ST.ty, Za.vol, Zjn, Zjn, Za.vols, Zk.nod, Zk.nods, ST.nod, h3]; omega
def ST.big (s : ST) : Bool := decide (20000 < s.nod) || decide (100 < s.dep)
theorem ZtF (s : ST) (h : s.nms = true) : Zp6 s.ty = if 20000 < s.nod then 3 else if 100 < s.dep then 4 else 0 := by
 unfold Zp6
 rw [if_pos (ZvM s h), Zkl, ZqM, Zwi, ZvT]
 by_cases h1 : 20000 < s.nod
 ·rw [if_pos (.inl h1), if_pos h1]
 ·rw [if_neg (show ¬ (20000 < s.nod ∨ 20000 < 1) by omega), if_neg h1]
  by_cases h2 : 100 < s.dep
  ·rw [if_pos (.inl h2), if_pos h2]
  ·rw [if_neg (show ¬ (100 < s.dep ∨ 100 < 1) by omega), if_neg h2]
theorem Zdg {s : ST} : s.big = false ↔ s.nod ≤ 20000 ∧ s.dep ≤ 100 := by
 unfold ST.big
 rw [Bool.or_eq_false_iff, decide_eq_false_iff_not, decide_eq_false_iff_not]; omega
def ST.good (s : ST) : Prop := s.nms = true ∧ s.big = false
theorem ZrA (s : ST) (h : s.good) : Zcj s.ty = some 0 := by
 have hb := Zdg.1 h.2
 have h1 := Zt1 s h.1
 have h2 := Zru s h.1
 rw [Zul s.ty (by omega) (by omega), ZtF s h.1, if_neg (by omega), if_neg (by omega)]
theorem ZtT (s : ST) (h : s.good) : ZaI s.ty = some 0 := by
 have hb := Zdg.1 h.2
 have h1 := Zt1 s h.1
 have h2 := Zru s h.1
 rw [ZuI s.ty (by omega) (by omega), ZtF s h.1, if_neg (by omega), if_neg (by omega)]
theorem Zy6 {t : Za} (hv : t.vol ≤ 1048576) (h : Zpa t = true) : ∃ s : ST, s.ty = t ∧ s.good := by
 unfold Zpa at h
 simp only [Bool.and_eq_true, beq_iff_eq, Bool.not_eq_true'] at h
 have hf : t.fms = true := by
  cases hf : t.fms with
  | true => rfl
  | false => unfold Zp6 at h; rw [hf] at h; simp at h
 obtain ⟨s, rfl, hn⟩ := ZE9 t (Nat.le_trans (ZtC t) hv) hf h.2
 refine ⟨s, rfl, hn, ?_⟩
 rw [ZtF s hn] at h
 rw [Zdg]
 by_cases h1 : 20000 < s.nod
 ·rw [if_pos h1] at h; simp at h
 ·by_cases h2 : 100 < s.dep
  ·rw [if_neg h1, if_pos h2] at h; simp at h
  ·omega
theorem Zuy {s : ST} (h : s.good) : Zpa s.ty = true := by
 have hb := Zdg.1 h.2
 unfold Zpa
 rw [ZtF s h.1, if_neg (by omega), if_neg (by omega), Zvy]; rfl

theorem Zr9 (a b : ByteArray) : (a == b) = decide (a = b) := by
 cases a with | mk x => cases b with | mk y =>
 have : ((⟨x⟩ : ByteArray) == ⟨y⟩) = (x == y) := rfl
 rw [this, Bool.eq_iff_iff, beq_iff_eq, decide_eq_true_iff]
 exact ⟨fun h => by rw [h], fun h => by injection h⟩
theorem ZkM (a b : ByteArray) : (a.toList == b.toList) = decide (a = b) := by
 rw [Bool.eq_iff_iff, beq_iff_eq, decide_eq_true_iff, Za0, Za0]
 exact ⟨fun h => ZfB h, fun h => by rw [h]⟩
abbrev SB := List (ByteArray × ST)
def lk (x : ByteArray) : SB → Option ST
 | [] => none
 | p :: L => if p.1 = x then some p.2 else lk x L
def fi (x : ByteArray) : SB → Option Nat
 | [] => none
 | p :: L => if p.1 = x then some 0 else (fi x L).map (· + 1)
def toB (p : ByteArray × ST) : Ze := Ze.mk p.1 p.2.ty
def atL : Nat → SB → List (ByteArray × Int)
 | _, [] => []
 | k, p :: L => (p.1, ((k : Nat) : Int)) :: atL (k + 1) L
theorem Zs2 (x : ByteArray) : ∀ L : SB, (fi x L = none ∧ lk x L = none) ∨ ∃ i p, fi x L = some i ∧ L[i]? = some p ∧ p.1 = x ∧ lk x L = some p.2
 | [] => .inl ⟨rfl, rfl⟩
 | q :: L => by
  by_cases h : q.1 = x
  ·exact .inr ⟨0, q, by rw [fi, if_pos h], rfl, h, by rw [lk, if_pos h]⟩
  ·rcases Zs2 x L with ⟨h1, h2⟩ | ⟨i, p, h1, h2, h3, h4⟩
   ·exact .inl ⟨by rw [fi, if_neg h, h1]; rfl, by rw [lk, if_neg h, h2]⟩
   ·exact .inr ⟨i + 1, p, by rw [fi, if_neg h, h1]; rfl, h2, h3, by rw [lk, if_neg h, h4]⟩
theorem ZuF (s : List Ze) (x : ByteArray) : ∀ (L : SB) (k : Nat), Za8 s x k (L.map toB) = some (match fi x L with | some i => ((k + i : Nat) : Int) | none => -1)
 | [], k => by rw [List.map_nil, Za8]; rfl
 | p :: L, k => by
  rw [List.map_cons, Za8, ZkM, fi]
  show (if decide (p.1 = x) = true then _ else _) = _
  by_cases h : p.1 = x
  ·rw [decide_eq_true h, ifT, if_pos h]; rfl
  ·rw [decide_eq_false h, ifF, if_neg h, ZuF s x L (k + 1)]
   cases fi x L with
   | none => rfl
   | some i => simp only [Option.map_some]; congr 2; omega
theorem ZzZ (x : ByteArray) (L : SB) : Zb5 (L.map toB) x = some (match fi x L with | some i => ((i : Nat) : Int) | none => -1) := by
 rw [Zb5, ZuF]
 cases fi x L with
 | none => rfl
 | some i => simp only [Nat.zero_add]
theorem ZuX (x : ByteArray) : ∀ (L : SB) (k : Nat), ZfL x (atL k L) = (fi x L).map fun i => ((k + i : Nat) : Int)
 | [], k => rfl
 | p :: L, k => by
  rw [atL, ZfL, Zr9, fi]
  by_cases h : p.1 = x
  ·rw [decide_eq_true h.symm, ifT, if_pos h]; rfl
  ·rw [decide_eq_false (fun e => h e.symm), ifF, if_neg h, ZuX x L (k + 1)]
   cases fi x L with
   | none => rfl
   | some i => simp only [Option.map_some]; congr 2; omega
theorem Zww (x : ByteArray) (u : ST) : ∀ (L : SB) (k n : Nat), fi x L = none → n = k + L.length → ZhV (atL k L) x ((n : Nat) : Int) = atL k (L ++ [(x, u)])
 | [], k, n, _, h => by subst h; rfl
 | p :: L, k, n, hf, h => by
  rw [fi] at hf
  by_cases hx : p.1 = x
  ·rw [if_pos hx] at hf; cases hf
  ·rw [if_neg hx] at hf
   have hf : fi x L = none := by cases hh : fi x L with | none => rfl | some i => rw [hh] at hf; cases hf
   rw [List.cons_append, atL, atL, ZhV, Zr9, decide_eq_false (fun e => hx e.symm), ifF, Zww x u L (k + 1) n hf (by rw [h, List.length_cons]; omega)]
theorem ZzN : ∀ (L : SB) (g : ByteArray × ST → ST) (k : Nat), atL k (L.map fun p => (p.1, g p)) = atL k L
 | [], g, k => rfl
 | p :: L, g, k => by rw [List.map_cons, atL, atL, ZzN L g (k + 1)]
theorem Zyu (x : ByteArray) (g : ByteArray × ST → ST) : ∀ L : SB, fi x (L.map fun p => (p.1, g p)) = fi x L
 | [] => rfl
 | p :: L => by rw [List.map_cons, fi, fi, Zyu x g L]
theorem Zus (L : SB) (x : ByteArray) : ZeN (atL 0 L) 0 x = some (match fi x L with | some i => (((i : Nat) : Int), true) | none => (0, false)) := by
 unfold ZeN
 rw [ZuX]
 cases fi x L with
 | none => rfl
 | some i => simp only [Option.map_some, Nat.zero_add]
theorem Zly {α : Type} (l : List α) (i : Nat) : ixI l ((i : Nat) : Int) = l[i]? := by
 unfold ixI; rw [if_pos (Int.natCast_nonneg i)]; rfl
def ST.isv : ST → Bool
 | .v _ => true
 | _ => false
def ST.res (L : SB) : ST → ST
 | .v s => (lk s L).getD (.v s)
 | t => t
theorem ZGd : ∀ t : ST, t.ty.fOp = match t with | .v _ => 1 | .k _ => 2 | .a _ _ => 3
 | .v _ => rfl
 | .k _ => rfl
 | .a _ _ => rfl
theorem ZBP (L : SB) (t : ST) : Zbi (L.map toB) t.ty = some (t.res L).ty := by
 unfold Zbi ZbO
 cases t with
 | v s =>
  show (if true = true then _ else _) = _
  rw [ifT]
  show (Zb5 (L.map toB) s >>= _) = _
  rw [ZzZ, Zn]
  rcases Zs2 s L with ⟨h1, h2⟩ | ⟨i, p, h1, h2, h3, h4⟩
  ·rw [h1, ST.res, h2]; rfl
  ·rw [h1, ST.res, h4]
   show (if decide (((i : Nat) : Int) ≥ 0) = true then _ else _) = _
   rw [decide_eq_true (Int.natCast_nonneg i), ifT]
   show (ixI _ ((i : Nat) : Int) >>= _) = _
   rw [Zly, List.getElem?_map, h2]
   rfl
 | k s => rfl
 | a f x => rfl
theorem ZB2 (L : SB) (t : ST) : ZaO ⟨L.map toB, atL 0 L⟩ t.ty = some (t.res L).ty := by
 unfold ZaO Zbm
 cases t with
 | v s =>
  show (if true = true then _ else _) = _
  rw [ifT]
  show (ZeN (atL 0 L) 0 s >>= _) = _
  rw [Zus, Zn]
  rcases Zs2 s L with ⟨h1, h2⟩ | ⟨i, p, h1, h2, h3, h4⟩
  ·rw [h1, ST.res, h2]; rfl
  ·rw [h1, ST.res, h4]
   show (ixI (L.map toB) ((i : Nat) : Int) >>= _) = _
   rw [Zly, List.getElem?_map, h2]
   rfl
 | k s => rfl
 | a f x => rfl
def ST.sub (L : SB) : ST → ST
 | .v s => (lk s L).getD (.v s)
 | .k s => .k s
 | .a f x => .a (f.sub L) (x.sub L)
def ST.occ (v : ByteArray) : ST → Bool
 | .v s => decide (s = v)
 | .k _ => false
 | .a f x => f.occ v || x.occ v
def ST.fr (l : List ByteArray) : ST → List ByteArray
 | .v s => if l.contains s = true then l else l ++ [s]
 | .k _ => l
 | .a f x => x.fr (f.fr l)
theorem Zsl (l : List ByteArray) (x : ByteArray) : l.contains x = true ↔ x ∈ l := by
 induction l with
 | nil => simp
 | cons a l ih => rw [List.contains_cons, Bool.or_eq_true, ih, Zr9, decide_eq_true_iff, List.mem_cons]
theorem ZtV (t : ST) : ∀ l, (t.fr l).length ≤ l.length + t.nod := by
 induction t with
 | v s => intro l; rw [ST.fr, ST.nod]; split <;> simp
 | k s => intro l; rw [ST.fr]; omega
 | a f x ihf ihx => intro l; rw [ST.fr, ST.nod]; have h1 := ihf l; have h2 := ihx (f.fr l); omega
theorem Zm2 (x : ByteArray) (t : ST) : ∀ l, x ∈ t.fr l ↔ x ∈ l ∨ t.occ x = true := by
 induction t with
 | v s =>
  intro l
  rw [ST.fr, ST.occ, decide_eq_true_iff]
  by_cases h : l.contains s = true
  ·rw [if_pos h]
   exact ⟨.inl, fun h' => h'.elim id fun e => e ▸ (Zsl l s).1 h⟩
  ·rw [if_neg h, List.mem_append, List.mem_singleton]
   exact ⟨fun h' => h'.imp id Eq.symm, fun h' => h'.imp id Eq.symm⟩
 | k s => intro l; rw [ST.fr, ST.occ]; simp
 | a f x' ihf ihx => intro l; rw [ST.fr, ST.occ, ihx, ihf, Bool.or_eq_true, or_assoc]
theorem Zwz (s : List ByteArray) (v : ByteArray) : ∀ (xs : List ByteArray) (k : Nat), ∃ r, ZaA s v k xs = some r ∧ decide (r ≥ 0) = xs.contains v
 | [], k => ⟨-1, by rw [ZaA], rfl⟩
 | x :: xs, k => by
  obtain ⟨r, h1, h2⟩ := Zwz s v xs (k + 1)
  rw [ZaA, ZkM, List.contains_cons, Zr9]
  by_cases h : v = x
  ·exact ⟨_, by rw [decide_eq_true h, ifT], by rw [decide_eq_true h, Bool.true_or]; exact decide_eq_true (Int.natCast_nonneg k)⟩
  ·exact ⟨r, by rw [decide_eq_false h, ifF, h1], by rw [decide_eq_false h, Bool.false_or, h2]⟩
theorem Zoa (s : List ByteArray) (v : ByteArray) : Zas s v = some (s.contains v) := by
 obtain ⟨r, h1, h2⟩ := Zwz s v s 0
 rw [Zas, Zda, h1, Zn, h2]
theorem Ztx (l b : List ByteArray) (t : Za) (k : Nat) : Zbp l b t k [] = some l := by rw [Zbp]
theorem ZCO (t : ST) : ∀ l : List ByteArray, l.length + t.nod ≤ 1000000000000 → Zc8 l [] t.ty = some (t.fr l) := by
 induction t with
 | v s =>
  intro l hl
  rw [ST.ty, Zc8, Zbr, Zbr]
  show (if true = true then _ else _) = _
  rw [ifT]
  show (Zas [] s >>= _) = _
  rw [Zoa, Zn]
  show ((if true = true then (Zas l s >>= fun r => some (!r)) else some false) >>= _) = _
  rw [Zzm, Zoa, Zn, Zn, ST.fr]
  show (if (!l.contains s) = true then (Z4 _ >>= fun _ => Zbp (l ++ [s]) [] _ 0 []) else Zbp l [] _ 0 []) = _
  rw [Ztx, Ztx]
  cases l.contains s with
  | true => rfl
  | false =>
   rw [Bool.not_false, ifT, Zdd]
   ·rfl
   ·rw [ST.nod] at hl; simp only [List.length_cons, List.length_nil]; omega
 | k s => intro l hl; rw [ST.ty, Zc8, Zbr, Zbr]; exact Ztx _ _ _ _
 | a f x ihf ihx =>
  intro l hl
  rw [ST.nod] at hl
  have h1 := ZtV f l
  rw [ST.ty, Zc8, Zbr, Zbr]
  show (if (((3 : Int) == 1)) = true then _ else if (((3 : Int) == 4)) = true then _ else Zbp l [] _ 0 [f.ty, x.ty]) = _
  rw [if_neg (by decide), if_neg (by decide), Zbp, ihf l (by omega), Zn, Zbp, ihx _ (by omega), Zn, Zbp, ST.fr]
theorem ZyM (t : ST) (h : t.good) : ZeZ t.ty = some (t.fr []) := by
 have hb := Zdg.1 h.2
 rw [ZeZ, ZrA t h, Zn, ZCO t [] (by simp; omega)]; rfl
theorem Zxw (s : List ByteArray) (v : ByteArray) : ∀ (xs : List ByteArray) (k : Nat), ZbR s v k xs = some (xs.contains v)
 | [], k => by rw [ZbR]; rfl
 | x :: xs, k => by
  rw [ZbR, ZkM, List.contains_cons, Zr9, Zxw s v xs (k + 1)]
  by_cases h : x = v
  ·rw [decide_eq_true h, decide_eq_true h.symm]; rfl
  ·rw [decide_eq_false h, decide_eq_false (fun e => h e.symm)]; rfl
theorem ZDv (t : ST) : ∀ l : List ByteArray, l.length + t.nod ≤ 1000000000000 → Zal l [] t.ty = some (t.fr l) := by
 induction t with
 | v s =>
  intro l hl
  rw [ST.ty, Zal]
  show ((if true = true then (ZbE [] s >>= fun r => some (!r)) else some false) >>= _) = _
  rw [Zzm, ZbE, Zxw, Zn, Zn]
  show (if true = true then (ZcM l s >>= _) else _) = _
  rw [ifT, ZcM, ZbE, Zxw, Zn, ST.fr]
  cases l.contains s with
  | true => rfl
  | false =>
   rw [ifF, ifF, Zdd]
   ·rfl
   ·rw [ST.nod] at hl; simp only [List.length_cons, List.length_nil]; omega
 | k s => intro l hl; rw [ST.ty, Zal, Zap, Zap]; show Z8 l [] 0 _ [] = _; rw [Z8]; rfl
 | a f x ihf ihx =>
  intro l hl
  rw [ST.nod] at hl
  have h1 := ZtV f l
  rw [ST.ty, Zal, Zap, Zap]
  show Z8 l [] 0 _ [f.ty, x.ty] = _
  rw [Z8, ihf l (by omega), Zn, Z8, ihx _ (by omega), Zn, Z8, ST.fr]
theorem ZEd (t : ST) (h : t.good) : Zdt t.ty = some (t.fr []) := by
 have hb := Zdg.1 h.2
 rw [Zdt, ZtT t h, Zn, ZDv t [] (by simp; omega)]; rfl
theorem Zqq (L : SB) (v : ByteArray) (t : ST) : (t.sub L).occ v = true ↔ ∃ x, t.occ x = true ∧ ((lk x L = none ∧ x = v) ∨ ∃ u, lk x L = some u ∧ u.occ v = true) := by
 induction t with
 | v s =>
  rw [ST.sub]
  simp only [ST.occ, decide_eq_true_eq]
  cases hl : lk s L with
  | none =>
   simp only [Option.getD_none, ST.occ, decide_eq_true_eq]
   exact ⟨fun h => ⟨s, rfl, .inl ⟨hl, h⟩⟩, fun ⟨x, hx, h⟩ => by subst hx; rw [hl] at h; simpa using h⟩
  | some u =>
   simp only [Option.getD_some]
   exact ⟨fun h => ⟨s, rfl, .inr ⟨u, hl, h⟩⟩, fun ⟨x, hx, h⟩ => by subst hx; rw [hl] at h; simpa using h⟩
 | k s => simp [ST.sub, ST.occ]
 | a f x ihf ihx =>
  rw [ST.sub, ST.occ, Bool.or_eq_true, ihf, ihx]
  simp only [ST.occ, Bool.or_eq_true]
  exact ⟨fun h => h.elim (fun ⟨y, h1, h2⟩ => ⟨y, .inl h1, h2⟩) (fun ⟨y, h1, h2⟩ => ⟨y, .inr h1, h2⟩), fun ⟨y, h1, h2⟩ => h1.elim (fun h1 => .inl ⟨y, h1, h2⟩) (fun h1 => .inr ⟨y, h1, h2⟩)⟩
def Zgi (L : SB) : Prop := ∀ p ∈ L, p.2.good ∧ Zl5 p.1 = true ∧ p.1.size ≤ 1048576
theorem Zq1 {x : ByteArray} {u : ST} : ∀ {L : SB}, lk x L = some u → (x, u) ∈ L
 | p :: L, h => by
  rw [lk] at h
  by_cases hx : p.1 = x
  ·rw [if_pos hx] at h; injection h with h; subst hx h; exact List.mem_cons_self ..
  ·rw [if_neg hx] at h; exact List.mem_cons_of_mem _ (Zq1 h)
theorem Zxr (L : SB) (hL : Zgi L) (v : ByteArray) (r1 : List ByteArray) : ∀ (xs : List ByteArray) (k : Nat), ZaB v r1 k ⟨L.map toB, atL 0 L⟩ xs = some (xs.any fun x => decide (x = v) || ((lk x L).any fun u => u.occ v))
 | [], k => by rw [ZaB]; rfl
 | x :: xs, k => by
  rw [ZaB, ZkM, List.any_cons]
  by_cases h : x = v
  ·rw [decide_eq_true h]; rfl
  ·rw [decide_eq_false h, ifF, Zus, Zn, Bool.false_or, Zxr L hL v r1 xs (k + 1)]
   rcases Zs2 x L with ⟨h1, h2⟩ | ⟨i, p, h1, h2, h3, h4⟩
   ·rw [h1, h2]; rfl
   ·rw [h1, h4]
    show (((ixI (L.map toB) ((i : Nat) : Int)) >>= _) >>= _) = _
    rw [Zly, List.getElem?_map, h2]
    show ((ZeZ p.2.ty >>= _) >>= _) = _
    rw [ZyM p.2 (hL p (List.mem_of_getElem? h2)).1, Zn, Zoa, Zn, Zn]
    have : (p.2.fr []).contains v = p.2.occ v := by
     rw [Bool.eq_iff_iff, Zsl, Zm2]; simp
    rw [this, Option.any_some]
    cases p.2.occ v <;> rfl
theorem ZGs (L : SB) (hL : Zgi L) (v : ByteArray) (t : ST) (ht : t.good) (hv : lk v L = none) : Zcx ⟨L.map toB, atL 0 L⟩ v t.ty = some ((t.sub L).occ v) := by
 rw [Zcx, ZyM t ht, Zn, Zxr L hL]
 congr 1
 rw [Bool.eq_iff_iff, List.any_eq_true, Zqq]
 constructor
 ·rintro ⟨x, hx, h⟩
  have hx := ((Zm2 x t []).1 hx).resolve_left (by simp)
  rw [Bool.or_eq_true, decide_eq_true_iff] at h
  rcases h with h | h
  ·exact ⟨x, hx, .inl ⟨h ▸ hv, h⟩⟩
  ·cases hl : lk x L with
   | none => rw [hl] at h; cases h
   | some u => rw [hl] at h; exact ⟨x, hx, .inr ⟨u, hl, h⟩⟩
 ·rintro ⟨x, hx, h⟩
  refine ⟨x, (Zm2 x t []).2 (.inr hx), ?_⟩
  rw [Bool.or_eq_true, decide_eq_true_iff]
  rcases h with ⟨_, h⟩ | ⟨u, hl, h⟩
  ·exact .inl h
  ·exact .inr (by rw [hl]; exact h)
theorem ZDb (v : ByteArray) (t : ST) : Z2 [] v t.ty = some (t.occ v) := by
 induction t with
 | v s =>
  rw [ST.ty, Z2]
  show (if true = true then _ else _) = _
  rw [ifT, Zb5, Za8, Zn]
  show some _ = _
  rw [ZkM]; rfl
 | k s => rw [ST.ty, Z2]; show ZJ _ v 0 _ [] = _; rw [ZJ]; rfl
 | a f x ihf ihx =>
  rw [ST.ty, Z2]
  show (ZJ [] v 0 _ [f.ty, x.ty]) = _
  rw [ZJ, ihf, Zn, ST.occ, ZJ, ihx, Zn, ZJ]
  cases f.occ v <;> cases x.occ v <;> rfl
theorem ZFR (L : SB) (v : ByteArray) (t : ST) : Z2 (L.map toB) v t.ty = some ((t.sub L).occ v) := by
 induction t with
 | v s =>
  rw [ST.ty, Z2]
  show (if true = true then _ else _) = _
  rw [ifT]
  show (Zb5 (L.map toB) s >>= _) = _
  rw [ZzZ, Zn, ST.sub]
  rcases Zs2 s L with ⟨h1, h2⟩ | ⟨i, p, h1, h2, h3, h4⟩
  ·rw [h1, h2]
   show some _ = _
   rw [ZkM]; rfl
  ·rw [h1, h4]
   show (if decide (((i : Nat) : Int) ≥ 0) = true then _ else _) = _
   rw [decide_eq_true (Int.natCast_nonneg i), ifT]
   show (ixI _ ((i : Nat) : Int) >>= _) = _
   rw [Zly, List.getElem?_map, h2]
   show (Z2 [] v p.2.ty >>= _) = _
   rw [ZDb]; rfl
 | k s => rw [ST.ty, Z2]; show ZJ _ v 0 _ [] = _; rw [ZJ]; rfl
 | a f x ihf ihx =>
  rw [ST.ty, Z2]
  show (ZJ _ v 0 _ [f.ty, x.ty]) = _
  rw [ZJ, ihf, Zn, ST.sub, ST.occ, ZJ, ihx, Zn, ZJ]
  cases (f.sub L).occ v <;> cases (x.sub L).occ v <;> rfl

def zty : Za := Za.mk 0 (ByteArray.mk #[]) (Zk.mk []) []
def Zrq (c : List (ByteArray × Za)) (L : SB) : Prop := ∀ x, ZfL x c = (lk x L).map ST.ty
theorem Zif {c : List (ByteArray × Za)} {L : SB} (h : Zrq c L) (x : ByteArray) : ZeN c zty x = some (match lk x L with | some u => (u.ty, true) | none => (zty, false)) := by
 unfold ZeN
 rw [h x]
 cases lk x L <;> rfl
theorem ZqE {β : Type} (x k : ByteArray) (v : β) : ∀ c : List (ByteArray × β), ZfL x (ZhV c k v) = if x = k then some v else ZfL x c
 | [] => by
  rw [ZhV, ZfL, ZfL, Zr9]
  by_cases h : x = k
  ·rw [decide_eq_true h, ifT, if_pos h]
  ·rw [decide_eq_false h, ifF, if_neg h]; rfl
 | p :: c => by
  rw [ZhV, Zr9]
  by_cases hk : k = p.1
  ·rw [decide_eq_true hk, ifT, ZfL, ZfL, Zr9, Zr9]
   by_cases h : x = k
   ·rw [decide_eq_true h, ifT, if_pos h]
   ·rw [decide_eq_false h, ifF, if_neg h, decide_eq_false (fun e => h (e.trans hk.symm)), ifF]
  ·rw [decide_eq_false hk, ifF, ZfL, ZfL, Zr9, ZqE x k v c]
   by_cases h : x = p.1
   ·rw [decide_eq_true h, ifT, ifT, if_neg (fun e => hk (e.symm.trans h))]
   ·rw [decide_eq_false h, ifF, ifF]
theorem Zwm (x : ByteArray) (M : SB) : ∀ L : SB, lk x (L ++ M) = match lk x L with | some u => some u | none => lk x M
 | [] => rfl
 | p :: L => by
  rw [List.cons_append, lk, lk]
  by_cases h : p.1 = x
  ·rw [if_pos h, if_pos h]
  ·rw [if_neg h, if_neg h, Zwm x M L]
theorem Ztn : ZaT (Zk.mk []) = some (Zk.mk []) := by rw [ZaT]; show Zbc _ 0 [] [] = _; rw [Zbc]
theorem ZzD (t : ST) : Zcn t.ty = some t.ty := by
 induction t with
 | v s => rw [ST.ty, Zcn]; show (ZaT (Zk.mk []) >>= _) = _; rw [Ztn, Zn]; show ZaK _ 0 _ [] [] = _; rw [ZaK]; rfl
 | k s => rw [ST.ty, Zcn]; show (ZaT (Zk.mk []) >>= _) = _; rw [Ztn, Zn]; show ZaK _ 0 _ [] [] = _; rw [ZaK]; rfl
 | a f x ihf ihx =>
  rw [ST.ty, Zcn]
  show (ZaT (Zk.mk []) >>= _) = _
  rw [Ztn, Zn]
  show ZaK _ 0 _ [] [f.ty, x.ty] = _
  rw [ZaK, ihf, Zn, Zdd _ (by simp only [List.length_append, List.length_cons, List.length_nil]; decide), ZaK, ihx, Zn, Zdd _ (by simp only [List.length_append, List.length_cons, List.length_nil]; decide), ZaK]
  rfl
theorem Zzz (t : ST) : Zcp t.ty = some t.ty := by
 induction t with
 | v s => rw [ST.ty, Zcp]; show ZaM _ 0 [] [] = _; rw [ZaM]; rfl
 | k s => rw [ST.ty, Zcp]; show ZaM _ 0 [] [] = _; rw [ZaM]; rfl
 | a f x ihf ihx =>
  rw [ST.ty, Zcp]
  show ZaM _ 0 [] [f.ty, x.ty] = _
  rw [ZaM, ihf, Zn, Zdd _ (by simp only [List.length_append, List.length_cons, List.length_nil]; decide), ZaM, ihx, Zn, Zdd _ (by simp only [List.length_append, List.length_cons, List.length_nil]; decide), ZaM]
  rfl
theorem Zns {L : SB} (hL : Zgi L) {x : ByteArray} {u : ST} (h : lk x L = some u) : u.good := (hL _ (Zq1 h)).1
theorem ZBE (t : ST) : 1 ≤ t.nod := by cases t <;> simp [ST.nod]; omega
theorem Zlo (t : ST) : t.dep ≤ t.nod := by
 induction t with
 | v s => exact Nat.le_refl _
 | k s => exact Nat.le_refl _
 | a f x ihf ihx => rw [ST.dep, ST.nod]; omega
theorem Zxe {L : SB} (hL : Zgi L) (t : ST) : (t.sub L).nod ≤ 20000 * t.nod := by
 induction t with
 | v s =>
  rw [ST.sub]
  cases h : lk s L with
  | none => simp [ST.nod]
  | some u => have := Zdg.1 (Zns hL h).2; simp only [Option.getD_some, ST.nod]; omega
 | k s => rw [ST.sub, ST.nod]; omega
 | a f x ihf ihx => rw [ST.sub, ST.nod, ST.nod]; omega
theorem ZoS {L : SB} (hL : Zgi L) (t : ST) (ht : t.nms = true) : (t.sub L).nms = true := by
 induction t with
 | v s =>
  rw [ST.sub]
  cases h : lk s L with
  | none => exact ht
  | some u => exact (Zns hL h).1
 | k s => exact ht
 | a f x ihf ihx => rw [ST.nms, Bool.and_eq_true] at ht; rw [ST.sub, ST.nms, ihf ht.1, ihx ht.2]; rfl
theorem Zy5 {c : List (ByteArray × Za)} {L : SB} (hc : Zrq c L) (hL : Zgi L) (t : ST) : t.nod ≤ 20000 → ZbU c t.ty = some ((((t.sub L).nod : Nat) : Int), (((t.sub L).dep : Nat) : Int)) := by
 induction t with
 | v s =>
  intro hb
  rw [ST.ty, ZbU]
  show (ZeN c zty s >>= _) = _
  rw [Zif hc, Zn, ST.sub]
  cases h : lk s L with
  | some u =>
   have hg := Zdg.1 (Zns hL h).2
   show (ZcD u.ty >>= _) = _
   rw [Zzb _ (by rw [Zkl]; have : BIG = 1000000000000 := rfl; omega), Zn, Zw7 _ (by rw [Zkl]; have : BIG = 1000000000000 := rfl; omega), Zn, Zkl, ZqM]
   rfl
  | none =>
   show (ZeN c zty s >>= _) = _
   rw [Zif hc, Zn, h]
   show Z5 0 0 _ 0 c [] = _
   rw [Z5]; rfl
 | k s =>
  intro hb
  rw [ST.ty, ZbU]
  show (ZeN c zty s >>= _) = _
  rw [Zif hc, Zn, ST.sub]
  have hf : ∀ r : Za × Bool, (if (r.2 && ((2 : Int) == 1)) = true then (ZcD r.1 >>= fun r12 => Zci r.1 >>= fun r13 => some (r12, r13)) else ZeN c zty s >>= fun r16 => if (r16.2 && ((2 : Int) == 4)) = true then none else Z5 0 0 (Za.mk 2 s (Zk.mk []) []) 0 c []) = some (((1 : Nat) : Int), ((1 : Nat) : Int)) := by
   intro r
   rw [show (r.2 && ((2 : Int) == 1)) = false from by rw [show ((2 : Int) == 1) = false from rfl, Bool.and_false], ifF, Zif hc, Zn]
   have h2 : ∀ q : Za × Bool, (if (q.2 && ((2 : Int) == 4)) = true then none else Z5 0 0 (Za.mk 2 s (Zk.mk []) []) 0 c []) = Z5 0 0 (Za.mk 2 s (Zk.mk []) []) 0 c [] := fun q => by
    rw [show (q.2 && ((2 : Int) == 4)) = false from by rw [show ((2 : Int) == 4) = false from rfl, Bool.and_false], ifF]
   rw [h2, Z5]; rfl
  exact hf _
 | a f x ihf ihx =>
  intro hb
  rw [ST.nod] at hb
  have e := Zxe hL (.a f x)
  have d1 := Zlo (f.sub L)
  have d2 := Zlo (x.sub L)
  rw [ST.sub, ST.nod, ST.nod] at e
  rw [ST.ty, ZbU]
  show (ZeN c zty (ByteArray.mk #[]) >>= _) = _
  rw [Zif hc, Zn, ST.sub, ST.nod, ST.dep]
  have hf : ∀ r : Za × Bool, (if (r.2 && ((3 : Int) == 1)) = true then (ZcD r.1 >>= fun r12 => Zci r.1 >>= fun r13 => some (r12, r13)) else ZeN c zty (ByteArray.mk #[]) >>= fun r16 => if (r16.2 && ((3 : Int) == 4)) = true then none else Z5 0 0 (Za.mk 3 (ByteArray.mk #[]) (Zk.mk []) [f.ty, x.ty]) 0 c [f.ty, x.ty]) = some (((1 + (f.sub L).nod + (x.sub L).nod : Nat) : Int), ((max (f.sub L).dep (x.sub L).dep + 1 : Nat) : Int)) := by
   intro r
   rw [show (r.2 && ((3 : Int) == 1)) = false from by rw [show ((3 : Int) == 1) = false from rfl, Bool.and_false], ifF, Zif hc, Zn]
   have h2 : ∀ q : Za × Bool, (if (q.2 && ((3 : Int) == 4)) = true then none else Z5 0 0 (Za.mk 3 (ByteArray.mk #[]) (Zk.mk []) [f.ty, x.ty]) 0 c [f.ty, x.ty]) = Z5 0 0 (Za.mk 3 (ByteArray.mk #[]) (Zk.mk []) [f.ty, x.ty]) 0 c [f.ty, x.ty] := fun q => by
    rw [show (q.2 && ((3 : Int) == 4)) = false from by rw [show ((3 : Int) == 4) = false from rfl, Bool.and_false], ifF]
   rw [h2, Z5, ihf (by omega), Zn, Z5, ihx (by omega), Zn, Z5]
   have z0 := ZgY (f.sub L).dep 0
   rw [Int.natCast_zero, Nat.max_eq_right (Nat.zero_le _)] at z0
   show some (IntKind.i64.wrap (IntKind.i64.wrap (IntKind.i64.wrap (0 + (((f.sub L).nod : Nat) : Int)) + (((x.sub L).nod : Nat) : Int)) + 1), IntKind.i64.wrap ((if (((x.sub L).dep : Nat) : Int) > (if (((f.sub L).dep : Nat) : Int) > 0 then (((f.sub L).dep : Nat) : Int) else 0) then (((x.sub L).dep : Nat) : Int) else (if (((f.sub L).dep : Nat) : Int) > 0 then (((f.sub L).dep : Nat) : Int) else 0)) + 1)) = _
   have w1 : IntKind.i64.wrap (((f.sub L).nod : Nat) : Int) = (((f.sub L).nod : Nat) : Int) := w64 (by omega) (by omega)
   have w2 : IntKind.i64.wrap ((((f.sub L).nod : Nat) : Int) + (((x.sub L).nod : Nat) : Int)) = (((f.sub L).nod : Nat) : Int) + (((x.sub L).nod : Nat) : Int) := w64 (by omega) (by omega)
   rw [z0, ZgY, Int.zero_add, w1, w2, w64 (by omega) (by omega), w64 (by omega) (by omega)]
   refine congrArg some (Prod.ext ?_ ?_)
   ·show _ = ((1 + (f.sub L).nod + (x.sub L).nod : Nat) : Int); omega
   ·show _ = ((max (f.sub L).dep (x.sub L).dep + 1 : Nat) : Int); omega
  exact hf _
theorem ZBY {c : List (ByteArray × Za)} {L : SB} (hc : Zrq c L) (t : ST) : ZcQ c t.ty = some (t.sub L).ty := by
 induction t with
 | v s =>
  rw [ST.ty, ZcQ]
  show (ZeN c zty s >>= _) = _
  rw [Zif hc, Zn, ST.sub]
  cases h : lk s L with
  | some u => show (Zcn u.ty >>= _) = _; rw [ZzD]; rfl
  | none => rfl
 | k s => rw [ST.ty, ZcQ]; show Zbx _ 0 [] c [] = _; rw [Zbx]; rfl
 | a f x ihf ihx =>
  rw [ST.ty, ZcQ]
  show Zbx _ 0 [] c [f.ty, x.ty] = _
  rw [Zbx, ihf, Zn, Zdd _ (by simp only [List.length_append, List.length_cons, List.length_nil]; decide), Zbx, ihx, Zn, Zdd _ (by simp only [List.length_append, List.length_cons, List.length_nil]; decide), Zbx]
  rfl
def Zib (L : SB) (t : ST) : Za := if (t.sub L).big = true then zty else (t.sub L).ty
theorem ZCL (a b : Nat) : (decide (((a : Nat) : Int) > 20000) || decide (((b : Nat) : Int) > 100)) = (decide (20000 < a) || decide (100 < b)) := by
 congr 1
 ·exact decide_eq_decide.2 (by omega)
 ·exact decide_eq_decide.2 (by omega)
theorem Zu6 {c : List (ByteArray × Za)} {M : SB} (hc : Zrq c M) (p : ByteArray × ST) : Zrq (match ZfL p.1 c with | some _ => c | none => ZhV c p.1 p.2.ty) (M ++ [p]) := by
 intro x
 rw [Zwm]
 have e := hc p.1
 cases h : lk p.1 M with
 | some u =>
  rw [h] at e
  rw [e]
  show ZfL x c = _
  rw [hc x]
  cases hx : lk x M with
  | some w => rfl
  | none =>
   show none = (lk x [p]).map ST.ty
   rw [lk, if_neg (fun e => by rw [e] at h; rw [h] at hx; cases hx)]; rfl
 | none =>
  rw [h] at e
  rw [e]
  show ZfL x (ZhV c p.1 p.2.ty) = _
  rw [ZqE]
  by_cases hx : x = p.1
  ·rw [if_pos hx, hx, h]; show _ = (lk p.1 [p]).map ST.ty; rw [lk, if_pos rfl]; rfl
  ·rw [if_neg hx, hc x]
   cases lk x M with
   | some w => rfl
   | none => show none = (lk x [p]).map ST.ty; rw [lk, if_neg (fun e => hx e.symm)]; rfl
theorem ZwN (s : List Ze) (t : ST) (ht : t.good) : ∀ (L M : SB) (c : List (ByteArray × Za)) (k : Nat), Zrq c M → Zgi (M ++ L) → Zct s k t.ty c (L.map toB) = some (Zib (M ++ L) t)
 | [], M, c, k, hc, hg => by
  have hb := Zdg.1 ht.2
  rw [List.append_nil] at hg ⊢
  rw [List.map_nil, Zct, Zy5 hc hg t (by omega), Zn, ZCL]
  show (if (t.sub M).big = true then _ else _) = _
  unfold Zib
  cases (t.sub M).big with
  | true => rfl
  | false => rw [ifF, ifF, ZBY hc, Zn]
 | p :: L, M, c, k, hc, hg => by
  have hp := hg p (by simp)
  have ih := ZwN s t ht L (M ++ [p]) (match ZfL p.1 c with | some _ => c | none => ZhV c p.1 p.2.ty) (k + 1) (Zu6 hc p) (by simpa using hg)
  rw [List.append_assoc, List.singleton_append] at ih
  rw [List.map_cons, Zct]
  show (Za9 p.1 >>= _) = _
  rw [ZAP _ (by omega), Zn, hp.2.1]
  show ((Zcj p.2.ty >>= _) >>= _) = _
  rw [ZrA _ hp.1, Zn, Zn]
  show (ZeN c zty p.1 >>= _) = _
  rw [ZeN]
  cases h : ZfL p.1 c with
  | some w => rw [h] at ih; exact ih
  | none => rw [h] at ih; exact ih
theorem ZFZ (L : SB) (hL : Zgi L) (t : ST) (ht : t.good) : ZeO (L.map toB) t.ty = some (Zib L t) := by
 rw [ZeO, ZrA t ht, Zn]
 exact ZwN _ t ht L [] [] 0 (fun x => rfl) hL
theorem ZuL (s : List Ze) (t : ST) (ht : t.good) : ∀ (L M : SB) (c : List (ByteArray × Za)) (k : Nat), Zrq c M → Zgi (M ++ L) → Zb6 s k t.ty c (L.map toB) = some (Zib (M ++ L) t)
 | [], M, c, k, hc, hg => by
  have hb := Zdg.1 ht.2
  rw [List.append_nil] at hg ⊢
  rw [List.map_nil, Zb6, Zy5 hc hg t (by omega), Zn, ZCL]
  show (if (t.sub M).big = true then _ else _) = _
  unfold Zib
  cases (t.sub M).big with
  | true => rfl
  | false => rw [ifF, ifF, ZBY hc, Zn]
 | p :: L, M, c, k, hc, hg => by
  have hp := hg p (by simp)
  have ih := ZuL s t ht L (M ++ [p]) (match ZfL p.1 c with | some _ => c | none => ZhV c p.1 p.2.ty) (k + 1) (Zu6 hc p) (by simpa using hg)
  rw [List.append_assoc, List.singleton_append] at ih
  rw [List.map_cons, Zb6]
  show (Za9 p.1 >>= _) = _
  rw [ZAP _ (by omega), Zn, hp.2.1]
  show ((Zcj p.2.ty >>= _) >>= _) = _
  rw [ZrA _ hp.1, Zn, Zn]
  show (ZeN c zty p.1 >>= _) = _
  rw [ZeN]
  cases h : ZfL p.1 c with
  | some w => rw [h] at ih; exact ih
  | none => rw [h] at ih; exact ih
theorem ZD5 (L : SB) (hL : Zgi L) (t : ST) (ht : t.good) : Zee (L.map toB) t.ty = some (Zib L t) := by
 rw [Zee, ZrA t ht, Zn]
 exact ZuL _ t ht L [] [] 0 (fun x => rfl) hL
theorem Zt9 (s : List Ze) (x : ByteArray) : ∀ (L : SB) (k : Nat), ZbF s x k (L.map toB) = some (match lk x L with | some u => (u.ty, true) | none => (zty, false))
 | [], k => by rw [List.map_nil, ZbF]; rfl
 | p :: L, k => by
  rw [List.map_cons, ZbF, ZkM, lk]
  show (if decide (p.1 = x) = true then _ else _) = _
  by_cases h : p.1 = x
  ·rw [decide_eq_true h, ifT, if_pos h]; rfl
  ·rw [decide_eq_false h, ifF, if_neg h, Zt9 s x L (k + 1)]
theorem ZAf (L : SB) (x : ByteArray) : Zb3 (L.map toB) x = some (match lk x L with | some u => (u.ty, true) | none => (zty, false)) := by rw [Zb3, Zt9]
theorem ZDX (L : SB) (hL : Zgi L) (t : ST) : t.nod ≤ 20000 → ZaF (L.map toB) [] t.ty = some ((((t.sub L).nod : Nat) : Int), (((t.sub L).dep : Nat) : Int)) := by
 induction t with
 | v s =>
  intro hb
  rw [ST.ty, ZaF]
  show ((if true = true then (ZbE [] s >>= fun r => some (!r)) else some false) >>= _) = _
  rw [Zzm, ZbE, Zxw, Zn, Zn]
  show (Zb3 (L.map toB) s >>= _) = _
  rw [ZAf, Zn, ST.sub]
  cases h : lk s L with
  | some u =>
   have hg := Zdg.1 (Zns hL h).2
   show (ZaN u.ty >>= _) = _
   rw [ZvJ _ (by rw [Zkl]; have : BIG = 1000000000000 := rfl; omega), Zn, ZtH _ (by rw [Zkl]; have : BIG = 1000000000000 := rfl; omega), Zn, Zkl, ZqM]
   rfl
  | none =>
   show Z9 _ [] _ = _
   rw [Z9]
   show Z7 _ [] _ = _
   rw [Z7]
   show ZW _ [] 1 0 0 _ [] = _
   rw [ZW]; rfl
 | k s =>
  intro hb
  rw [ST.ty, ZaF]
  show Z9 _ [] _ = _
  rw [Z9]
  show Z7 _ [] _ = _
  rw [Z7]
  show ZW _ [] 1 0 0 _ [] = _
  rw [ZW]; rfl
 | a f x ihf ihx =>
  intro hb
  rw [ST.nod] at hb
  have e := Zxe hL (.a f x)
  have d1 := Zlo (f.sub L)
  have d2 := Zlo (x.sub L)
  rw [ST.sub, ST.nod, ST.nod] at e
  rw [ST.ty, ZaF, ST.sub, ST.nod, ST.dep]
  show Z9 _ [] _ = _
  rw [Z9]
  show Z7 _ [] _ = _
  rw [Z7]
  show ZW _ [] 1 0 0 _ [f.ty, x.ty] = _
  rw [ZW, ihf (by omega), Zn, ZW, ihx (by omega), Zn, ZW]
  have z0 := ZgY (f.sub L).dep 0
  rw [Int.natCast_zero, Nat.max_eq_right (Nat.zero_le _)] at z0
  show some (IntKind.i64.wrap (IntKind.i64.wrap (1 + (((f.sub L).nod : Nat) : Int)) + (((x.sub L).nod : Nat) : Int)), IntKind.i64.wrap ((if (((x.sub L).dep : Nat) : Int) > (if (((f.sub L).dep : Nat) : Int) > 0 then (((f.sub L).dep : Nat) : Int) else 0) then (((x.sub L).dep : Nat) : Int) else (if (((f.sub L).dep : Nat) : Int) > 0 then (((f.sub L).dep : Nat) : Int) else 0)) + 1)) = _
  have w1 : IntKind.i64.wrap (1 + (((f.sub L).nod : Nat) : Int)) = 1 + (((f.sub L).nod : Nat) : Int) := w64 (by omega) (by omega)
  rw [z0, ZgY, w1, w64 (by omega) (by omega), w64 (by omega) (by omega)]
  refine congrArg some (Prod.ext ?_ ?_)
  ·show _ = ((1 + (f.sub L).nod + (x.sub L).nod : Nat) : Int); omega
  ·show _ = ((max (f.sub L).dep (x.sub L).dep + 1 : Nat) : Int); omega
theorem ZE7 (L : SB) (t : ST) : Zao (L.map toB) t.ty = some (t.sub L).ty := by
 induction t with
 | v s =>
  rw [ST.ty, Zao]
  show (Zb3 (L.map toB) s >>= _) = _
  rw [ZAf, Zn, ST.sub]
  cases h : lk s L <;> rfl
 | k s => rw [ST.ty, Zao]; rfl
 | a f x ihf ihx =>
  rw [ST.ty, Zao]
  show ((some x.ty) >>= fun ZxX => (some f.ty) >>= fun Zyp => Zao (L.map toB) Zyp >>= fun ZAn => Zao (L.map toB) ZxX >>= fun Zzn => Zeq ZAn Zzn >>= fun ZA6 => some ZA6) = _
  rw [Zn, Zn, ihf, Zn, ihx, Zn]; rfl
theorem Zwt (M : SB) (t : ST) (ht : t.good) (hM : Zgi M) : ∀ (L : SB) (k : Nat), Zgi L → Zbh (M.map toB) k t.ty (L.map toB) = some (Zib M t)
 | [], k, _ => by
  have hb := Zdg.1 ht.2
  rw [List.map_nil, Zbh, ZDX M hM t (by omega), Zn, ZCL]
  show (if (t.sub M).big = true then _ else _) = _
  unfold Zib
  cases (t.sub M).big with
  | true => rfl
  | false => rw [ifF, ifF, ZE7, Zn]
 | p :: L, k, hg => by
  have hp := hg p (by simp)
  rw [List.map_cons, Zbh]
  show (Zby p.1 >>= _) = _
  rw [ZBM _ (by omega), Zn, hp.2.1]
  show ((ZaI p.2.ty >>= _) >>= _) = _
  rw [ZtT _ hp.1, Zn, Zn]
  exact Zwt M t ht hM L (k + 1) fun q hq => hg q (by simp [hq])
theorem Zxs (L : SB) (hL : Zgi L) (t : ST) (ht : t.good) : Za3 (L.map toB) t.ty = some (Zib L t) := by
 rw [Za3, ZtT t ht, Zn]
 exact Zwt L t ht hL L 0 hL
theorem ZoT (L : SB) (t : ST) : ((Zib L t).fOp == 0) = (t.sub L).big := by
 unfold Zib
 cases (t.sub L).big with
 | true => rfl
 | false => rw [ifF, ZGd]; cases t.sub L <;> rfl

def bg (v : ByteArray) (u : ST) (p : ByteArray × ST) : ByteArray × ST := (p.1, p.2.sub [(v, u)])
def Zm7 (v : ByteArray) (u : ST) (p : ByteArray × ST) : Bool := (p.2.sub [(v, u)]).big
theorem ZHP {A : SB} {x : Nat} (hx : A.length = x) (p q : ByteArray × ST) (B : SB) : (((A ++ p :: B).map toB).set x (toB q)) = ((A ++ [q]) ++ B).map toB := by
 subst hx
 rw [List.map_append, List.map_append, List.map_append, List.map_cons, List.set_append_right _ _ (by simp), List.length_map, Nat.sub_self, List.set_cons_zero]
 simp
theorem ZGl {A : SB} {x : Nat} (hx : A.length = x) (p : ByteArray × ST) (B : SB) : ((A ++ p :: B).map toB)[x]? = some (toB p) := by
 subst hx; simp
theorem Zvc (v : ByteArray) (u : ST) (hu : Zgi [(v, u)]) (s : Zu) : ∀ (B A : SB) (x : Nat), A.length = x → s.flist.length = x + B.length → Zgi B → x + B.length ≤ 1000000000 →
  (B.any (Zm7 v u) = true → ∃ s', Zac v u.ty s x ((A ++ B).map toB) = some (3, s')) ∧
  (B.any (Zm7 v u) = false → Zac v u.ty s x ((A ++ B).map toB) = some (0, ⟨(A ++ B.map (bg v u) ++ [(v, u)]).map toB, ZhV s.fat v (((A ++ B).length : Nat) : Int)⟩))
 | [], A, x, hx, hs, _, hl => by
  refine ⟨fun h => (by cases h), fun _ => ?_⟩
  simp only [List.length_nil, Nat.add_zero] at hs hl
  rw [Zac, hs, decide_eq_false (by omega), ifF, Zdd]
  ·simp [toB]
  ·simp; omega
 | p :: B, A, x, hx, hs, hB, hl => by
  rw [List.length_cons] at hs hl
  have hp := hB p (by simp)
  have ih := Zvc v u hu s B (A ++ [bg v u p]) (x + 1) (by simp [hx]) (by omega) (fun q hq => hB q (by simp [hq])) (by omega)
  have e : Zac v u.ty s x ((A ++ p :: B).map toB) = if Zm7 v u p = true then some (3, ⟨(A ++ p :: B).map toB, s.fat⟩) else Zac v u.ty s (x + 1) (((A ++ [bg v u p]) ++ B).map toB) := by
   rw [Zac, hs, decide_eq_true (by omega), ifT, ZGl hx, Zn]
   show (Zee ([(v, u)].map toB) p.2.ty >>= _) = _
   rw [ZD5 [(v, u)] hu p.2 hp.1, Zn, ZoT, Zn]
   show (if Zm7 v u p = true then _ else _) = _
   cases hb : Zm7 v u p with
   | true => rfl
   | false =>
    rw [ifF, ifF]
    have hr : Zib [(v, u)] p.2 = (p.2.sub [(v, u)]).ty := by unfold Zib; rw [show (p.2.sub [(v, u)]).big = false from hb, ifF]
    rw [hr]
    show Zac v u.ty s (x + 1) (((A ++ p :: B).map toB).set x (toB (bg v u p))) = _
    rw [ZHP hx]
  rw [e, List.any_cons]
  cases hb : Zm7 v u p with
  | true => exact ⟨fun _ => ⟨_, rfl⟩, fun h => by cases h⟩
  | false =>
   rw [ifF, Bool.false_or]
   refine ⟨ih.1, fun h => ?_⟩
   rw [ih.2 h]
   simp [bg]
theorem Zvh (s : List Ze) (v : ByteArray) (u : ST) (hu : Zgi [(v, u)]) : ∀ (B A : SB) (x : Nat), Zgi B → A.length + B.length ≤ 1000000000 →
  ZbC s v u.ty (A.map toB) x (B.map toB) = some (if B.any (Zm7 v u) = true then ([], 3) else ((A ++ B.map (bg v u) ++ [(v, u)]).map toB, 0))
 | [], A, x, _, hl => by
  rw [List.map_nil, ZbC, Zdd]
  ·simp [toB]
  ·simp at hl ⊢; omega
 | p :: B, A, x, hB, hl => by
  rw [List.length_cons] at hl
  have hp := hB p (by simp)
  have ih := Zvh s v u hu B (A ++ [bg v u p]) (x + 1) (fun q hq => hB q (by simp [hq])) (by simp; omega)
  rw [List.map_cons, ZbC]
  show (Za3 ([(v, u)].map toB) p.2.ty >>= _) = _
  rw [Zxs [(v, u)] hu p.2 hp.1, Zn, ZoT, List.any_cons]
  show (if Zm7 v u p = true then _ else _) = _
  cases hb : Zm7 v u p with
  | true => rfl
  | false =>
   have hr : Zib [(v, u)] p.2 = (p.2.sub [(v, u)]).ty := by unfold Zib; rw [show (p.2.sub [(v, u)]).big = false from hb, ifF]
   rw [ifF, hr, Zdd _ (by simp; omega), Bool.false_or]
   have e : A.map toB ++ [Ze.mk (toB p).fName (p.2.sub [(v, u)]).ty] = (A ++ [bg v u p]).map toB := by simp [toB, bg]
   rw [e, ih]
   simp
def Zf6 (L : SB) (v : ByteArray) (t : ST) : Int × SB :=
 if (t.sub L).occ v = true then (23, [])
 else if (t.sub L).big = true then (3, [])
 else if L.any (Zm7 v (t.sub L)) = true then (3, [])
 else (0, L.map (bg v (t.sub L)) ++ [(v, t.sub L)])
theorem ZBt {x : ByteArray} {L : SB} (h : lk x L = none) : fi x L = none := by
 rcases Zs2 x L with ⟨h1, _⟩ | ⟨i, p, _, _, _, h4⟩
 ·exact h1
 ·rw [h] at h4; cases h4
theorem ZCK (L : SB) (hL : Zgi L) (v : ByteArray) (hv : Zl5 v = true ∧ v.size ≤ 1048576) (t : ST) (ht : t.good) (hl : L.length ≤ 1000000000) :
  Za7 (L.map toB) v t.ty = some ((Zf6 L v t).2.map toB, (Zf6 L v t).1) := by
 rw [Za7, ZFR, Zn]
 unfold Zf6
 cases ho : (t.sub L).occ v with
 | true => rfl
 | false =>
  rw [ifF, ifF, Zxs L hL t ht, Zn, ZoT]
  cases hb : (t.sub L).big with
  | true => rfl
  | false =>
   have hr : Zib L t = (t.sub L).ty := by unfold Zib; rw [hb, ifF]
   have hu : Zgi [(v, t.sub L)] := fun p hp => by rw [List.mem_singleton] at hp; subst hp; exact ⟨⟨ZoS hL t ht.1, hb⟩, hv⟩
   rw [ifF, ifF, hr]
   have := Zvh (L.map toB) v (t.sub L) hu L [] 0 hL (by simpa using hl)
   rw [List.map_nil] at this
   rw [this, List.nil_append]
   cases L.any (Zm7 v (t.sub L)) <;> rfl
theorem ZvN (L : SB) (hL : Zgi L) (v : ByteArray) (hv : Zl5 v = true ∧ v.size ≤ 1048576) (hf : lk v L = none) (t : ST) (ht : t.good) (hl : L.length ≤ 1000000000) :
  ∃ s', ZaD ⟨L.map toB, atL 0 L⟩ v t.ty = some ((Zf6 L v t).1, s') ∧ ((Zf6 L v t).1 = 0 → s' = ⟨(Zf6 L v t).2.map toB, atL 0 (Zf6 L v t).2⟩) := by
 rw [ZaD, ZGs L hL v t ht hf, Zn]
 unfold Zf6
 cases ho : (t.sub L).occ v with
 | true => exact ⟨_, rfl, fun h => by cases h⟩
 | false =>
  rw [ifF, ifF]
  show ∃ s', (ZeO (L.map toB) t.ty >>= _) = _ ∧ _
  rw [ZFZ L hL t ht, Zn, ZoT]
  cases hb : (t.sub L).big with
  | true => exact ⟨_, rfl, fun h => by cases h⟩
  | false =>
   have hr : Zib L t = (t.sub L).ty := by unfold Zib; rw [hb, ifF]
   have hu : Zgi [(v, t.sub L)] := fun p hp => by rw [List.mem_singleton] at hp; subst hp; exact ⟨⟨ZoS hL t ht.1, hb⟩, hv⟩
   rw [ifF, ifF, hr]
   obtain ⟨h1, h2⟩ := Zvc v (t.sub L) hu ⟨L.map toB, atL 0 L⟩ L [] 0 rfl (by simp) hL (by simpa using hl)
   rw [List.nil_append] at h1 h2
   cases hg : L.any (Zm7 v (t.sub L)) with
   | true =>
    obtain ⟨s', h1⟩ := h1 hg
    exact ⟨s', h1, fun h => by cases h⟩
   | false =>
    refine ⟨_, h2 hg, fun _ => ?_⟩
    rw [List.nil_append, Zww v (t.sub L) L 0 _ (ZBt hf) (by omega)]
    show _ = Zu.mk ((L.map (bg v (t.sub L)) ++ [(v, t.sub L)]).map toB) (atL 0 (L.map (bg v (t.sub L)) ++ [(v, t.sub L)]))
    congr 1
    have : ∀ (L M : SB) (g : ByteArray × ST → ST) (k : Nat), atL k (L.map (fun p => (p.1, g p)) ++ M) = atL k (L ++ M) := by
     intro L M g
     induction L with
     | nil => intro k; rfl
     | cons p L ih => intro k; rw [List.map_cons, List.cons_append, List.cons_append, atL, atL, ih]
    exact (this L _ (fun p => p.2.sub [(v, t.sub L)]) 0).symm

def ZqU (L : SB) : Prop := ∀ p ∈ L, ∀ y, p.2.occ y = true → lk y L = none
theorem Zxm {L : SB} (h : ZqU L) {x : ByteArray} {u : ST} (hx : lk x L = some u) {y : ByteArray} (hy : u.occ y = true) : lk y L = none := h _ (Zq1 hx) y hy
theorem ZC3 (L : SB) (t : ST) : (∀ y, t.occ y = true → lk y L = none) → t.sub L = t := by
 induction t with
 | v s => intro h; rw [ST.sub, h s (by simp [ST.occ])]; rfl
 | k s => intro h; rfl
 | a f x ihf ihx => intro h; rw [ST.sub, ihf fun y hy => h y (by simp [ST.occ, hy]), ihx fun y hy => h y (by simp [ST.occ, hy])]
theorem Zuc {L : SB} (hI : ZqU L) (t : ST) {y : ByteArray} (h : (t.sub L).occ y = true) : lk y L = none := by
 obtain ⟨x, _, h | ⟨u, h1, h2⟩⟩ := (Zqq L y t).1 h
 ·exact h.2 ▸ h.1
 ·exact Zxm hI h1 h2
theorem Zuk {L : SB} (hI : ZqU L) (t : ST) : (t.sub L).sub L = t.sub L := ZC3 L _ fun y hy => Zuc hI t hy
theorem ZwD {L : SB} (hI : ZqU L) (t : ST) : (t.res L).sub L = t.sub L := by
 cases t with
 | v s =>
  show ((lk s L).getD (.v s)).sub L = (lk s L).getD (.v s)
  have := Zuk hI (.v s)
  exact this
 | k s => rfl
 | a f x => rfl
theorem Zth {L : SB} (hI : ZqU L) {t : ST} {x : ByteArray} (h : t.res L = .v x) : lk x L = none := by
 cases t with
 | v s =>
  rw [ST.res] at h
  cases hs : lk s L with
  | none => rw [hs] at h; injection h with h; exact h ▸ hs
  | some u => rw [hs] at h; simp only [Option.getD_some] at h; subst h; exact Zxm hI hs (by simp [ST.occ])
 | k s => cases h
 | a f x => cases h
theorem Zt8 {L : SB} (hL : Zgi L) {t : ST} (ht : t.good) : (t.res L).good := by
 cases t with
 | v s =>
  rw [ST.res]
  cases hs : lk s L with
  | none => exact ht
  | some u => exact Zns hL hs
 | k s => exact ht
 | a f x => exact ht
theorem ZwM {L : SB} {t : ST} {y : ByteArray} (h : (t.res L).occ y = true) : t.occ y = true ∨ ∃ p ∈ L, p.2.occ y = true := by
 cases t with
 | v s =>
  rw [ST.res] at h
  cases hs : lk s L with
  | none => rw [hs] at h; exact .inl h
  | some u => rw [hs] at h; exact .inr ⟨_, Zq1 hs, h⟩
 | k s => exact .inl h
 | a f x => exact .inl h
theorem Zxq {L : SB} (hL : Zgi L) (t : ST) : (t.sub L).dep ≤ t.dep + 99 := by
 induction t with
 | v s =>
  rw [ST.sub]
  cases hs : lk s L with
  | none => simp [ST.dep]
  | some u => have := Zdg.1 (Zns hL hs).2; simp only [Option.getD_some, ST.dep]; omega
 | k s => simp [ST.sub, ST.dep]
 | a f x ihf ihx => rw [ST.sub, ST.dep, ST.dep]; omega
def ZnG (L : SB) (v : ByteArray) (u : ST) : SB := L.map (bg v u) ++ [(v, u)]
theorem ZAL (x v : ByteArray) (u : ST) : ∀ L : SB, lk x (L.map (bg v u)) = (lk x L).map fun t => t.sub [(v, u)]
 | [] => rfl
 | p :: L => by
  rw [List.map_cons, lk, lk, ZAL x v u L]
  show (if p.1 = x then _ else _) = _
  by_cases h : p.1 = x
  ·rw [if_pos h, if_pos h]; rfl
  ·rw [if_neg h, if_neg h]
theorem Zrb (x v : ByteArray) (u : ST) : lk x [(v, u)] = if v = x then some u else none := by rw [lk]; rfl
theorem Zpx (x v : ByteArray) (u : ST) (L : SB) : lk x (ZnG L v u) = match lk x L with | some t => some (t.sub [(v, u)]) | none => if v = x then some u else none := by
 unfold ZnG
 rw [Zwm, ZAL]
 cases lk x L with
 | some t => rfl
 | none => exact Zrb x v u
theorem Zxv {L : SB} {v : ByteArray} {u : ST} (t : ST) : t.sub (ZnG L v u) = (t.sub L).sub [(v, u)] := by
 induction t with
 | v s =>
  rw [ST.sub, ST.sub, Zpx]
  cases hs : lk s L with
  | some w => rfl
  | none =>
   show _ = (ST.v s).sub [(v, u)]
   rw [ST.sub, Zrb]
 | k s => rfl
 | a f x ihf ihx => rw [ST.sub, ihf, ihx]; rfl
theorem ZwY {v y : ByteArray} {u t : ST} (h : (t.sub [(v, u)]).occ y = true) : (t.occ y = true ∧ y ≠ v) ∨ (u.occ y = true ∧ t.occ v = true) := by
 obtain ⟨x, h1, ⟨h2, h3⟩ | ⟨w, h2, h3⟩⟩ := (Zqq _ y t).1 h
 ·rw [Zrb] at h2
  subst h3
  exact .inl ⟨h1, fun e => by rw [if_pos e.symm] at h2; cases h2⟩
 ·rw [Zrb] at h2
  by_cases e : v = x
  ·rw [if_pos e] at h2; injection h2 with h2; subst e h2; exact .inr ⟨h3, h1⟩
  ·rw [if_neg e] at h2; cases h2
theorem Zy3 {L : SB} (hI : ZqU L) {v : ByteArray} {t : ST} (hv : lk v L = none) (ho : (t.sub L).occ v = false) : ZqU (ZnG L v (t.sub L)) := by
 have key : ∀ y, lk y L = none → y ≠ v → lk y (ZnG L v (t.sub L)) = none := fun y h1 h2 => by rw [Zpx, h1]; exact if_neg fun e => h2 e.symm
 have ku : ∀ y, (t.sub L).occ y = true → lk y (ZnG L v (t.sub L)) = none := fun y hy => key y (Zuc hI t hy) fun e => by subst e; rw [ho] at hy; cases hy
 intro p hp y hy
 unfold ZnG at hp
 rcases List.mem_append.1 hp with hp | hp
 ·obtain ⟨q, hq, rfl⟩ := List.mem_map.1 hp
  rcases ZwY hy with ⟨h1, h2⟩ | ⟨h1, _⟩
  ·exact key y (hI q hq y h1) h2
  ·exact ku y h1
 ·rw [List.mem_singleton] at hp; subst hp; exact ku y hy
theorem Zw8 {v : ByteArray} {u : ST} {M : SB} (h : (ST.v v).sub M = u.sub M) (w : ST) : (w.sub [(v, u)]).sub M = w.sub M := by
 induction w with
 | v s =>
  rw [ST.sub, Zrb]
  by_cases e : v = s
  ·rw [if_pos e, ← e]; exact h.symm
  ·rw [if_neg e]; rfl
 | k s => rfl
 | a f x ihf ihx => rw [ST.sub, ST.sub, ihf, ihx]; rfl
def unb (V : List ByteArray) (L : SB) : Nat := (V.filter fun x => (lk x L).isNone).length
theorem Zsg {α : Type} (p q : α → Bool) (hpq : ∀ x, q x = true → p x = true) : ∀ (V : List α) (v : α), v ∈ V → p v = true → q v = false → (V.filter q).length < (V.filter p).length
 | a :: V, v, hv, hp, hq => by
  have le : ∀ V : List α, (V.filter q).length ≤ (V.filter p).length := fun V => by
   induction V with
   | nil => exact Nat.le_refl _
   | cons a V ih =>
    rw [List.filter_cons, List.filter_cons]
    cases h1 : q a with
    | true => rw [hpq a h1]; simpa using ih
    | false => cases p a <;> simp <;> omega
  rw [List.filter_cons, List.filter_cons]
  rcases List.mem_cons.1 hv with rfl | hv
  ·rw [hp, hq]; have := le V; simp; omega
  ·have ih := Zsg p q hpq V v hv hp hq
   cases h1 : q a with
   | true => rw [hpq a h1]; simpa using ih
   | false => cases p a <;> simp <;> omega
theorem ZBw {V : List ByteArray} {L : SB} {v : ByteArray} {u : ST} (hv : v ∈ V) (hf : lk v L = none) : unb V (ZnG L v u) < unb V L := by
 refine Zsg _ _ (fun x hx => ?_) V v hv (by rw [hf]; rfl) (by rw [Zpx, hf]; simp)
 rw [Zpx] at hx
 cases h : lk x L with
 | none => rfl
 | some w => rw [h] at hx; cases hx
theorem ZAG {L : SB} (hL : Zgi L) {v : ByteArray} {t : ST} (hv : Zl5 v = true ∧ v.size ≤ 1048576) (ht : t.good) (hb : (t.sub L).big = false) (hg : L.any (Zm7 v (t.sub L)) = false) : Zgi (ZnG L v (t.sub L)) := by
 have hu : Zgi [(v, t.sub L)] := fun p hp => by rw [List.mem_singleton] at hp; subst hp; exact ⟨⟨ZoS hL t ht.1, hb⟩, hv⟩
 intro p hp
 unfold ZnG at hp
 rcases List.mem_append.1 hp with hp | hp
 ·obtain ⟨q, hq, rfl⟩ := List.mem_map.1 hp
  have hq' := hL q hq
  refine ⟨⟨ZoS hu q.2 hq'.1.1, ?_⟩, hq'.2⟩
  rw [List.any_eq_false] at hg
  have := hg q hq
  show (q.2.sub [(v, t.sub L)]).big = false
  simpa [Zm7] using this
 ·exact hu p hp
def Vin (V : List ByteArray) (L : SB) : Prop := ∀ p ∈ L, ∀ y, p.2.occ y = true → y ∈ V
theorem Zw0 {V : List ByteArray} {L : SB} (h : Vin V L) {t : ST} (ht : ∀ y, t.occ y = true → y ∈ V) {y : ByteArray} (hy : (t.sub L).occ y = true) : y ∈ V := by
 obtain ⟨x, h1, ⟨_, h3⟩ | ⟨w, h2, h3⟩⟩ := (Zqq _ y t).1 hy
 ·exact h3 ▸ ht x h1
 ·exact h _ (Zq1 h2) y h3
theorem ZA5 {V : List ByteArray} {L : SB} (h : Vin V L) {v : ByteArray} {t : ST} (ht : ∀ y, t.occ y = true → y ∈ V) : Vin V (ZnG L v (t.sub L)) := by
 intro p hp y hy
 unfold ZnG at hp
 rcases List.mem_append.1 hp with hp | hp
 ·obtain ⟨q, hq, rfl⟩ := List.mem_map.1 hp
  rcases ZwY hy with ⟨h1, _⟩ | ⟨h1, _⟩
  ·exact h q hq y h1
  ·exact Zw0 h ht h1
 ·rw [List.mem_singleton] at hp; subst hp; exact Zw0 h ht hy
theorem Zz3 {L : SB} {v : ByteArray} {t : ST} (h : (Zf6 L v t).1 = 0) : (t.sub L).occ v = false ∧ (t.sub L).big = false ∧ L.any (Zm7 v (t.sub L)) = false ∧ (Zf6 L v t).2 = ZnG L v (t.sub L) := by
 unfold Zf6 at h ⊢
 cases h1 : (t.sub L).occ v with
 | true => rw [h1] at h; cases h
 | false =>
  cases h2 : (t.sub L).big with
  | true => rw [h1, h2] at h; cases h
  | false =>
   cases h3 : L.any (Zm7 v (t.sub L)) with
   | true => rw [h1, h2, h3] at h; cases h
   | false => exact ⟨rfl, rfl, rfl, rfl⟩
theorem bindP_bad {L : SB} {v : ByteArray} {t : ST} (h : (Zf6 L v t).1 ≠ 0) : (Zf6 L v t).2 = [] := by
 unfold Zf6 at h ⊢
 cases h1 : (t.sub L).occ v with
 | true => rfl
 | false =>
  cases h2 : (t.sub L).big with
  | true => rfl
  | false =>
   cases h3 : L.any (Zm7 v (t.sub L)) with
   | true => rfl
   | false => rw [h1, h2, h3] at h; exact absurd rfl h

abbrev SP := List (ST × ST)
def toP (p : ST × ST) : Zl := Zl.mk p.1.ty p.2.ty
def stk (T : SP) : List Zl := T.reverse.map toP
theorem ZkA (p : ST × ST) (T : SP) : stk (p :: T) = stk T ++ [toP p] := by simp [stk]
theorem Zqx (T : SP) : (stk T).length = T.length := by simp [stk]
theorem ZzI {α : Type} (S : List α) (q : α) (h : S.length ≤ 1000000000) : ixI (S ++ [q]) (IntKind.i64.wrap ((((S ++ [q]).length : Nat) : Int) - 1)) = some q := by
 rw [List.length_append, List.length_cons, List.length_nil, w64 (by omega) (by omega), show ((S.length + (0 + 1) : Nat) : Int) - 1 = ((S.length : Nat) : Int) from by omega, Zly]
 simp
theorem ZyO {α : Type} (S : List α) (q : α) (h : S.length ≤ 1000000000) : slL (S ++ [q]) ((0 : Nat) : Int) (IntKind.i64.wrap ((((S ++ [q]).length : Nat) : Int) - 1)) = some S := by
 rw [List.length_append, List.length_cons, List.length_nil, w64 (by omega) (by omega), show ((S.length + (0 + 1) : Nat) : Int) - 1 = ((S.length : Nat) : Int) from by omega]
 unfold slL
 rw [if_pos ⟨by omega, by omega, by simp; omega⟩]
 simp
def ZiV (L : SB) (S : List Zl) (A B : Za) : Option (Int × Zu × List Zl) :=
 if (((A.fOp == 1) && (B.fOp == 1)) && (A.fName.toList == B.fName.toList)) = true then Zp 0 (atL 0 L) (L.map toB) S
 else if (A.fOp == 1) = true then ZaD ⟨L.map toB, atL 0 L⟩ A.fName B >>= fun r => Zp r.1 r.2.fat r.2.flist S
 else if (B.fOp == 1) = true then ZaD ⟨L.map toB, atL 0 L⟩ B.fName A >>= fun r => Zp r.1 r.2.fat r.2.flist S
 else if (((A.fOp == 2) && (B.fOp == 2)) && (A.fName.toList == B.fName.toList)) = true then Zp 0 (atL 0 L) (L.map toB) S
 else if ((A.fOp == 3) && (B.fOp == 3)) = true then
  (ixI A.fKids 1) >>= fun x1 => (ixI B.fKids 1) >>= fun y1 => (ixI A.fKids 0) >>= fun x0 => (ixI B.fKids 0) >>= fun y0 =>
  Z4 ((S.length + ([(Zl.mk x1 y1), (Zl.mk x0 y0)]).length) * 144 ≤ 140737488355328) >>= fun _ =>
  Zp 0 (atL 0 L) (L.map toB) (S ++ ([(Zl.mk x1 y1), (Zl.mk x0 y0)]))
 else Zp 22 (atL 0 L) (L.map toB) S
theorem ZtP (L : SB) (T : SP) (a b : ST) (h : T.length ≤ 1000000000) : ZB (atL 0 L) (L.map toB) (stk ((a, b) :: T)) = ZiV L (stk T) (a.res L).ty (b.res L).ty := by
 have hs : (stk T).length ≤ 1000000000 := by rw [Zqx]; exact h
 rw [ZkA, ZB, ZzI _ _ hs, ZyO _ _ hs, decide_eq_true (by simp <;> omega), ifT, Zn]
 show (ZaO ⟨L.map toB, atL 0 L⟩ a.ty >>= _) = _
 rw [ZB2, Zn, Zn]
 show (ZaO ⟨L.map toB, atL 0 L⟩ b.ty >>= _) = _
 rw [ZB2]; rfl
def ZkD (L : SB) (S : List Zl) (A B : Za) : Option (List Ze × Int) :=
 if (((A.fOp == 1) && (B.fOp == 1)) && (A.fName.toList == B.fName.toList)) = true then Zs (L.map toB) 0 S
 else if (A.fOp == 1) = true then Za7 (L.map toB) A.fName B >>= fun r => Zs r.1 r.2 S
 else if (B.fOp == 1) = true then Za7 (L.map toB) B.fName A >>= fun r => Zs r.1 r.2 S
 else if (((A.fOp == 2) && (B.fOp == 2)) && (A.fName.toList == B.fName.toList)) = true then Zs (L.map toB) 0 S
 else if ((A.fOp == 3) && (B.fOp == 3)) = true then
  (ixI A.fKids 1) >>= fun x1 => (ixI B.fKids 1) >>= fun y1 => (ixI A.fKids 0) >>= fun x0 => (ixI B.fKids 0) >>= fun y0 =>
  Z4 ((S.length + ([(Zl.mk x1 y1), (Zl.mk x0 y0)]).length) * 144 ≤ 140737488355328) >>= fun _ =>
  Zs (L.map toB) 0 (S ++ ([(Zl.mk x1 y1), (Zl.mk x0 y0)]))
 else Zs (L.map toB) 22 S
theorem ZCJ (L : SB) (T : SP) (a b : ST) (h : T.length ≤ 1000000000) : Zs (L.map toB) 0 (stk ((a, b) :: T)) = ZkD L (stk T) (a.res L).ty (b.res L).ty := by
 have hs : (stk T).length ≤ 1000000000 := by rw [Zqx]; exact h
 rw [ZkA, Zs, ZzI _ _ hs, ZyO _ _ hs, decide_eq_true (by simp <;> omega)]
 show ((some (toP (a, b))) >>= _) = _
 rw [Zn]
 show (Zbi (L.map toB) a.ty >>= _) = _
 rw [ZBP, Zn, Zn]
 show (Zbi (L.map toB) b.ty >>= _) = _
 rw [ZBP]; rfl
theorem ZEt (s : List Ze) (e : Int) (he : e ≠ 0) (S : List Zl) : Zs s e S = some ([], e) := by
 have h1 : (e == 0) = false := by rw [beq_eq_false_iff_ne]; exact he
 have h2 : (e != 0) = true := by rw [bne, h1]; rfl
 rw [Zs, h1, Bool.and_false, ifF, h2, ifT]
theorem ZAB (e : Int) (he : e ≠ 0) (at_ : List (ByteArray × Int)) (l : List Ze) (S : List Zl) : Zp e at_ l S = some (e, ⟨[], []⟩, S) := by
 have h1 : (e == 0) = false := by rw [beq_eq_false_iff_ne]; exact he
 have h2 : (e != 0) = true := by rw [bne, h1]; rfl
 rw [Zp, h2, ifT]
theorem ZBu (at_ : List (ByteArray × Int)) (l : List Ze) (S : List Zl) : Zp 0 at_ l S = ZB at_ l S := by
 rw [Zp]; rfl
def HOk (L : SB) (h0 : Nat) : SP → Prop
 | [] => True
 | p :: T => (T.length + 1 ≤ h0 ∨ (p.1.sub L).dep + (T.length + 1) ≤ 200 + h0) ∧ HOk L h0 T
theorem ZBA (t : ST) : 1 ≤ t.dep := by cases t <;> simp [ST.dep]
theorem Zw2 {L : SB} {h0 : Nat} : ∀ {T : SP}, HOk L h0 T → T.length ≤ h0 + 200
 | [], _ => Nat.zero_le _
 | p :: T, h => by have := ZBA (p.1.sub L); have h := h.1; rw [List.length_cons]; omega
theorem ZtD {L : SB} {h0 : Nat} : ∀ {T : SP}, T.length ≤ h0 → HOk L h0 T
 | [], _ => trivial
 | p :: T, h => by rw [List.length_cons] at h; exact ⟨.inl h, ZtD (by omega)⟩
structure Ans (V : List ByteArray) (L : SB) (T : SP) (e : Int) (L' : SB) : Prop where
 bad : e ≠ 0 → L' = []
 good : Zgi L'
 idem : ZqU L'
 ext : e = 0 → ∀ t : ST, (t.sub L).sub L' = t.sub L'
 eqs : e = 0 → ∀ p ∈ T, p.1.sub L' = p.2.sub L'
 len : L'.length ≤ 1000000000
 err : e = 0 ∨ e = 3 ∨ e = 22 ∨ e = 23
structure Inv (V : List ByteArray) (L : SB) (T : SP) (h0 : Nat) : Prop where
 good : Zgi L
 idem : ZqU L
 vin : Vin V L
 tgood : ∀ p ∈ T, p.1.good ∧ p.2.good
 tin : ∀ p ∈ T, ∀ y, (p.1.occ y = true ∨ p.2.occ y = true) → y ∈ V
 vok : ∀ y ∈ V, Zl5 y = true ∧ y.size ≤ 1048576
 hok : HOk L h0 T
 top : h0 + 200 * unb V L ≤ 500000000
 len : L.length + unb V L ≤ 500000000
def tot (L : SB) : SP → Nat
 | [] => 0
 | p :: T => (p.1.sub L).nod + tot L T
theorem Ans.nil {V : List ByteArray} {L : SB} {T : SP} {e : Int} (he : e = 3 ∨ e = 22 ∨ e = 23) : Ans V L T e [] :=
 ⟨fun _ => rfl, fun p hp => absurd hp List.not_mem_nil, fun p hp => absurd hp List.not_mem_nil, fun h => by rcases he with he | he | he <;> (rw [he] at h; cases h), fun h => by rcases he with he | he | he <;> (rw [he] at h; cases h), by simp, .inr he⟩
def Zoi (V : List ByteArray) (L : SB) (T : SP) (n : Option (Int × Zu × List Zl)) (r : Option (List Ze × Int)) : Prop :=
 ∃ e L' s' S', n = some (e, s', S') ∧ s'.flist = L'.map toB ∧ r = some (L'.map toB, e) ∧ Ans V L T e L'
theorem Zoi.err {V : List ByteArray} {L M : SB} {T : SP} {e : Int} (he : e = 3 ∨ e = 22 ∨ e = 23) {at_ : List (ByteArray × Int)} {l : List Ze} {l2 : List Ze} {S S2 : List Zl} : Zoi V L T (Zp e at_ l S) (Zs l2 e S2) := by
 have h0 : e ≠ 0 := by rcases he with he | he | he <;> (rw [he]; decide)
 rw [ZAB e h0, ZEt _ e h0]
 exact ⟨e, [], _, _, rfl, rfl, rfl, Ans.nil he⟩
theorem Zx8 (L : SB) (v : ByteArray) (t : ST) : (Zf6 L v t).1 = 0 ∨ (Zf6 L v t).1 = 3 ∨ (Zf6 L v t).1 = 22 ∨ (Zf6 L v t).1 = 23 := by
 unfold Zf6
 split
 ·simp
 ·split
  ·simp
  ·split <;> simp
theorem ZxR {V : List ByteArray} {L : SB} {T : SP} {h0 : Nat} {p : ST × ST} (hI : Inv V L (p :: T) h0) {v : ByteArray} {t : ST} (hv : lk v L = none) (hvV : v ∈ V) (ht : t.good) (htV : ∀ y, t.occ y = true → y ∈ V)
  (hp : (p.1.sub L = .v v ∧ p.2.sub L = t.sub L) ∨ (p.2.sub L = .v v ∧ p.1.sub L = t.sub L))
  (rec_ : ∀ (L1 : SB) (h1 : Nat), unb V L1 < unb V L → Inv V L1 T h1 → Zoi V L1 T (ZB (atL 0 L1) (L1.map toB) (stk T)) (Zs (L1.map toB) 0 (stk T))) :
  Zoi V L (p :: T) (ZaD ⟨L.map toB, atL 0 L⟩ v t.ty >>= fun r => Zp r.1 r.2.fat r.2.flist (stk T)) (Za7 (L.map toB) v t.ty >>= fun r => Zs r.1 r.2 (stk T)) := by
 have hlen : L.length ≤ 1000000000 := by have := hI.len; omega
 obtain ⟨s', h1, h2⟩ := ZvN L hI.good v (hI.vok v hvV) hv t ht hlen
 rw [h1, Zn, ZCK L hI.good v (hI.vok v hvV) t ht hlen, Zn]
 by_cases he : (Zf6 L v t).1 = 0
 ·obtain ⟨b1, b2, b3, b4⟩ := Zz3 he
  rw [h2 he, b4, he, ZBu]
  have hT := Zw2 hI.hok.2
  have hun := ZBw (u := t.sub L) hvV hv
  have hI1 : Inv V (ZnG L v (t.sub L)) T (h0 + 200) :=
   ⟨ZAG hI.good (hI.vok v hvV) ht b2 b3, Zy3 hI.idem hv b1, ZA5 hI.vin htV, fun q hq => hI.tgood q (List.mem_cons_of_mem _ hq), fun q hq => hI.tin q (List.mem_cons_of_mem _ hq), hI.vok, ZtD hT,
    by have := hI.top; omega, by have := hI.len; have e : (ZnG L v (t.sub L)).length = L.length + 1 := by simp [ZnG]
                                 omega⟩
  obtain ⟨e, L', s1, S1, g1, g2, g3, A⟩ := rec_ _ _ hun hI1
  refine ⟨e, L', s1, S1, g1, g2, g3, ⟨A.bad, A.good, A.idem, ?_, ?_, A.len, A.err⟩⟩
  ·intro h0 w
   have h3 := A.ext h0
   have hx : (ST.v v).sub L' = (t.sub L).sub L' := by
    have := h3 (.v v)
    rw [ST.sub, Zpx, hv] at this
    simp only [if_true, Option.getD_some] at this
    exact this.symm
   rw [← Zw8 hx (w.sub L), ← Zxv, h3]
  ·intro h0 q hq
   rcases List.mem_cons.1 hq with rfl | hq
   ·have h3 := A.ext h0
    have hx : (ST.v v).sub L' = (t.sub L).sub L' := by
     have := h3 (.v v)
     rw [ST.sub, Zpx, hv] at this
     simp only [if_true, Option.getD_some] at this
     exact this.symm
    have hw : ∀ w : ST, (w.sub L).sub L' = w.sub L' := fun w => by rw [← Zw8 hx (w.sub L), ← Zxv, h3]
    rcases hp with ⟨p1, p2⟩ | ⟨p1, p2⟩
    ·rw [← hw q.1, ← hw q.2, p1, p2, hx]
    ·rw [← hw q.1, ← hw q.2, p1, p2, hx]
   ·exact A.eqs h0 q hq
 ·have h3 := (Zx8 L v t).resolve_left he
  exact Zoi.err (M := L) h3
theorem Zoi.back {V : List ByteArray} {L : SB} {T T' : SP} {n : Option (Int × Zu × List Zl)} {r : Option (List Ze × Int)} (h : Zoi V L T' n r) (hq : ∀ L' : SB, (∀ t : ST, (t.sub L).sub L' = t.sub L') → (∀ p ∈ T', p.1.sub L' = p.2.sub L') → ∀ p ∈ T, p.1.sub L' = p.2.sub L') : Zoi V L T n r := by
 obtain ⟨e, L', s', S', h1, h2, h3, A⟩ := h
 exact ⟨e, L', s', S', h1, h2, h3, ⟨A.bad, A.good, A.idem, A.ext, fun h0 => hq L' (A.ext h0) (A.eqs h0), A.len, A.err⟩⟩
theorem ZwJ {p : Prop} [Decidable p] {α : Type} (x y : α) : (if decide p = true then x else y) = if p then x else y := by by_cases h : p <;> simp [h]
theorem Zvw (L : SB) (S : List Zl) (x : ByteArray) : ZiV L S (ST.v x).ty (ST.v x).ty = Zp 0 (atL 0 L) (L.map toB) S := by
 unfold ZiV
 show (if (x.toList == x.toList) = true then _ else _) = _
 rw [ZkM, decide_eq_true rfl, ifT]
theorem Zqy (L : SB) (S : List Zl) (x : ByteArray) (t : ST) (h : ∀ y, t = .v y → x ≠ y) : ZiV L S (ST.v x).ty t.ty = (ZaD ⟨L.map toB, atL 0 L⟩ x t.ty >>= fun r => Zp r.1 r.2.fat r.2.flist S) := by
 unfold ZiV
 cases t with
 | v y =>
  show (if (x.toList == y.toList) = true then _ else _) = _
  rw [ZkM, decide_eq_false (h y rfl), ifF]; rfl
 | k s => rfl
 | a f z => rfl
theorem Zvd (L : SB) (S : List Zl) (x : ByteArray) (t : ST) (h : t.isv = false) : ZiV L S t.ty (ST.v x).ty = (ZaD ⟨L.map toB, atL 0 L⟩ x t.ty >>= fun r => Zp r.1 r.2.fat r.2.flist S) := by
 unfold ZiV
 cases t with
 | v y => cases h
 | k s => rfl
 | a f z => rfl
theorem Zvj (L : SB) (S : List Zl) (x y : ByteArray) : ZiV L S (ST.k x).ty (ST.k y).ty = if x = y then Zp 0 (atL 0 L) (L.map toB) S else Zp 22 (atL 0 L) (L.map toB) S := by
 unfold ZiV
 show (if (x.toList == y.toList) = true then _ else _) = _
 rw [ZkM, ZwJ]; rfl
theorem Zz4 (L : SB) (S : List Zl) (x : ByteArray) (f z : ST) : ZiV L S (ST.k x).ty (ST.a f z).ty = Zp 22 (atL 0 L) (L.map toB) S := rfl
theorem Zyv (L : SB) (S : List Zl) (x : ByteArray) (f z : ST) : ZiV L S (ST.a f z).ty (ST.k x).ty = Zp 22 (atL 0 L) (L.map toB) S := rfl
theorem Zvu (L : SB) (S : List Zl) (x : ByteArray) : ZkD L S (ST.v x).ty (ST.v x).ty = Zs (L.map toB) 0 S := by
 unfold ZkD
 show (if (x.toList == x.toList) = true then _ else _) = _
 rw [ZkM, decide_eq_true rfl, ifT]
theorem Zze (L : SB) (S : List Zl) (x : ByteArray) (t : ST) (h : ∀ y, t = .v y → x ≠ y) : ZkD L S (ST.v x).ty t.ty = (Za7 (L.map toB) x t.ty >>= fun r => Zs r.1 r.2 S) := by
 unfold ZkD
 cases t with
 | v y =>
  show (if (x.toList == y.toList) = true then _ else _) = _
  rw [ZkM, decide_eq_false (h y rfl), ifF]; rfl
 | k s => rfl
 | a f z => rfl
theorem ZuB (L : SB) (S : List Zl) (x : ByteArray) (t : ST) (h : t.isv = false) : ZkD L S t.ty (ST.v x).ty = (Za7 (L.map toB) x t.ty >>= fun r => Zs r.1 r.2 S) := by
 unfold ZkD
 cases t with
 | v y => cases h
 | k s => rfl
 | a f z => rfl
theorem ZAY (L : SB) (S : List Zl) (x y : ByteArray) : ZkD L S (ST.k x).ty (ST.k y).ty = if x = y then Zs (L.map toB) 0 S else Zs (L.map toB) 22 S := by
 unfold ZkD
 show (if (x.toList == y.toList) = true then _ else _) = _
 rw [ZkM, ZwJ]; rfl
theorem ZAE (L : SB) (S : List Zl) (x : ByteArray) (f z : ST) : ZkD L S (ST.k x).ty (ST.a f z).ty = Zs (L.map toB) 22 S := rfl
theorem ZAo (L : SB) (S : List Zl) (x : ByteArray) (f z : ST) : ZkD L S (ST.a f z).ty (ST.k x).ty = Zs (L.map toB) 22 S := rfl
theorem ZzG (L : SB) (T : SP) (f z g w : ST) (h : T.length ≤ 600000000) : ZiV L (stk T) (ST.a f z).ty (ST.a g w).ty = Zp 0 (atL 0 L) (L.map toB) (stk ((f, g) :: (z, w) :: T)) := by
 unfold ZiV
 show (Z4 _ >>= fun _ => Zp 0 (atL 0 L) (L.map toB) (stk T ++ [toP (z, w), toP (f, g)])) = _
 rw [Zdd _ (by rw [Zqx]; simp only [List.length_cons, List.length_nil]; omega), ZkA, ZkA, List.append_assoc]; rfl
theorem ZAl (L : SB) (T : SP) (f z g w : ST) (h : T.length ≤ 600000000) : ZkD L (stk T) (ST.a f z).ty (ST.a g w).ty = Zs (L.map toB) 0 (stk ((f, g) :: (z, w) :: T)) := by
 unfold ZkD
 show (Z4 _ >>= fun _ => Zs (L.map toB) 0 (stk T ++ [toP (z, w), toP (f, g)])) = _
 rw [Zdd _ (by rw [Zqx]; simp only [List.length_cons, List.length_nil]; omega), ZkA, ZkA, List.append_assoc]; rfl
theorem ZsF {f x : ST} (h : (ST.a f x).good) : f.good ∧ x.good := by
 have h1 := h.1
 have h2 := Zdg.1 h.2
 rw [ST.nms, Bool.and_eq_true] at h1
 rw [ST.nod, ST.dep] at h2
 exact ⟨⟨h1.1, Zdg.2 (by omega)⟩, ⟨h1.2, Zdg.2 (by omega)⟩⟩
theorem Zv4 (V : List ByteArray) : ∀ (m : Nat) (n : Nat) (L : SB) (T : SP) (h0 : Nat), unb V L = m → tot L T = n → Inv V L T h0 →
  Zoi V L T (ZB (atL 0 L) (L.map toB) (stk T)) (Zs (L.map toB) 0 (stk T)) := by
 intro m
 induction m using Nat.strongRecOn with
 | _ m ihm =>
 intro n
 induction n using Nat.strongRecOn with
 | _ n ihn =>
 intro L T h0 hm hn hI
 have rec_ : ∀ (T : SP) (L1 : SB) (h1 : Nat), unb V L1 < unb V L → Inv V L1 T h1 → Zoi V L1 T (ZB (atL 0 L1) (L1.map toB) (stk T)) (Zs (L1.map toB) 0 (stk T)) :=
  fun T L1 h1 hu hi => ihm _ (hm ▸ hu) _ L1 T h1 rfl rfl hi
 match T, hn, hI with
 | [], hn, hI =>
  refine ⟨0, L, ⟨L.map toB, atL 0 L⟩, [], ?_, rfl, ?_, ⟨fun h => absurd rfl h, hI.good, hI.idem, fun _ t => Zuk hI.idem t, fun _ p hp => absurd hp List.not_mem_nil, by have := hI.len; omega, .inl rfl⟩⟩
  ·show ZB _ _ [] = _; rw [ZB]; rfl
  ·show Zs _ 0 [] = _; rw [Zs]; rfl
 | (a, b) :: T, hn, hI =>
  have hT : T.length ≤ h0 + 200 := Zw2 hI.hok.2
  have hT2 : T.length ≤ 1000000000 := by have := hI.top; omega
  rw [ZtP L T a b hT2, ZCJ L T a b hT2]
  have hab := hI.tgood _ (List.mem_cons_self ..)
  have ga := Zt8 hI.good hab.1
  have gb := Zt8 hI.good hab.2
  have sa := ZwD hI.idem a
  have sb := ZwD hI.idem b
  have hin := hI.tin _ (List.mem_cons_self ..)
  have va : ∀ y, (a.res L).occ y = true → y ∈ V := fun y hy => by
   rcases ZwM hy with h | ⟨p, hp, h⟩
   ·exact hin y (.inl h)
   ·exact hI.vin p hp y h
  have vb : ∀ y, (b.res L).occ y = true → y ∈ V := fun y hy => by
   rcases ZwM hy with h | ⟨p, hp, h⟩
   ·exact hin y (.inr h)
   ·exact hI.vin p hp y h
  have hI0 : Inv V L T h0 := ⟨hI.good, hI.idem, hI.vin, fun q hq => hI.tgood q (List.mem_cons_of_mem _ hq), fun q hq => hI.tin q (List.mem_cons_of_mem _ hq), hI.vok, hI.hok.2, hI.top, hI.len⟩
  have htot : tot L T < n := by rw [← hn]; show _ < (a.sub L).nod + tot L T; have := ZBE (a.sub L); omega
  have skip : a.sub L = b.sub L → Zoi V L ((a, b) :: T) (Zp 0 (atL 0 L) (L.map toB) (stk T)) (Zs (L.map toB) 0 (stk T)) := fun heq => by
   rw [ZBu]
   refine (ihn _ htot L T h0 hm rfl hI0).back fun L' h1 h2 p hp => ?_
   rcases List.mem_cons.1 hp with rfl | hp
   ·show a.sub L' = b.sub L'; rw [← h1 a, heq, h1]
   ·exact h2 p hp
  generalize ha' : a.res L = A at *
  generalize hb' : b.res L = B at *
  have bnd : ∀ (x : ByteArray) (t : ST), lk x L = none → x ∈ V → t.good → (∀ y, t.occ y = true → y ∈ V) → ((a.sub L = .v x ∧ b.sub L = t.sub L) ∨ (b.sub L = .v x ∧ a.sub L = t.sub L)) →
    Zoi V L ((a, b) :: T) (ZaD ⟨L.map toB, atL 0 L⟩ x t.ty >>= fun r => Zp r.1 r.2.fat r.2.flist (stk T)) (Za7 (L.map toB) x t.ty >>= fun r => Zs r.1 r.2 (stk T)) :=
   fun x t h1 h2 h3 h4 h5 => ZxR hI h1 h2 h3 h4 h5 (rec_ T)
  cases hA : A with
  | v x =>
   rw [hA] at ha' va sa
   have hx := Zth hI.idem ha'
   have hxs : a.sub L = .v x := by rw [← sa, ST.sub, hx]; rfl
   have hxV := va x (by simp [ST.occ])
   by_cases hB : B = .v x
   ·rw [hB] at sb ⊢
    rw [Zvw, Zvu]
    exact skip (by rw [hxs, ← sb, ST.sub, hx]; rfl)
   ·have hne : ∀ y, B = .v y → x ≠ y := fun y hy e => hB (by rw [hy, e])
    rw [Zqy _ _ _ _ hne, Zze _ _ _ _ hne]
    exact bnd x B hx hxV gb vb (.inl ⟨hxs, sb.symm⟩)
  | k s =>
   rw [hA] at ha' va sa ga
   cases hB : B with
   | v y =>
    rw [hB] at hb' vb sb
    have hy := Zth hI.idem hb'
    have hys : b.sub L = .v y := by rw [← sb, ST.sub, hy]; rfl
    rw [Zvd _ _ _ _ rfl, ZuB _ _ _ _ rfl]
    exact bnd y (.k s) hy (vb y (by simp [ST.occ])) ga va (.inr ⟨hys, sa.symm⟩)
   | k s2 =>
    rw [hB] at sb
    rw [Zvj, ZAY]
    by_cases hs : s = s2
    ·rw [if_pos hs, if_pos hs]
     exact skip (by rw [← sa, ← sb, hs])
    ·rw [if_neg hs, if_neg hs]
     exact Zoi.err (M := L) (.inr (.inl rfl))
   | a g w => rw [Zz4, ZAE]; exact Zoi.err (M := L) (.inr (.inl rfl))
  | a f z =>
   rw [hA] at ha' va sa ga
   cases hB : B with
   | v y =>
    rw [hB] at hb' vb sb
    have hy := Zth hI.idem hb'
    have hys : b.sub L = .v y := by rw [← sb, ST.sub, hy]; rfl
    rw [Zvd _ _ _ _ rfl, ZuB _ _ _ _ rfl]
    exact bnd y (.a f z) hy (vb y (by simp [ST.occ])) ga va (.inr ⟨hys, sa.symm⟩)
   | k s2 => rw [Zyv, ZAo]; exact Zoi.err (M := L) (.inr (.inl rfl))
   | a g w =>
    rw [hB] at hb' vb sb gb
    rw [ZzG _ _ _ _ _ _ (by have := hI.top; omega), ZAl _ _ _ _ _ _ (by have := hI.top; omega), ZBu]
    obtain ⟨gf, gz⟩ := ZsF ga
    obtain ⟨gg, gw⟩ := ZsF gb
    have hd := hI.hok.1
    rw [← sa] at hd
    have d0 := Zxq hI.good f
    have d1 := Zxq hI.good z
    have df := (Zdg.1 gf.2).2
    have dz := (Zdg.1 gz.2).2
    have hI1 : Inv V L ((f, g) :: (z, w) :: T) h0 := by
     refine ⟨hI.good, hI.idem, hI.vin, fun q hq => ?_, fun q hq y hy => ?_, hI.vok, ⟨?_, ?_, hI.hok.2⟩, hI.top, hI.len⟩
     ·rcases List.mem_cons.1 hq with rfl | hq
      ·exact ⟨gf, gg⟩
      ·rcases List.mem_cons.1 hq with rfl | hq
       ·exact ⟨gz, gw⟩
       ·exact hI.tgood q (List.mem_cons_of_mem _ hq)
     ·rcases List.mem_cons.1 hq with rfl | hq
      ·exact hy.elim (fun h => va y (by simp [ST.occ, h])) (fun h => vb y (by simp [ST.occ, h]))
      ·rcases List.mem_cons.1 hq with rfl | hq
       ·exact hy.elim (fun h => va y (by simp [ST.occ, h])) (fun h => vb y (by simp [ST.occ, h]))
       ·exact hI.tin q (List.mem_cons_of_mem _ hq) y hy
     ·rw [ST.sub, ST.dep] at hd
      show ((z, w) :: T).length + 1 ≤ h0 ∨ (f.sub L).dep + (((z, w) :: T).length + 1) ≤ 200 + h0
      rw [List.length_cons]
      omega
     ·rw [ST.sub, ST.dep] at hd
      show T.length + 1 ≤ h0 ∨ (z.sub L).dep + (T.length + 1) ≤ 200 + h0
      omega
    refine (ihn _ ?_ L _ h0 hm rfl hI1).back fun L' h1 h2 p hp => ?_
    ·rw [← hn]
     show (f.sub L).nod + ((z.sub L).nod + tot L T) < (a.sub L).nod + tot L T
     rw [← sa, ST.sub, ST.nod]; omega
    ·rcases List.mem_cons.1 hp with rfl | hp
     ·show a.sub L' = b.sub L'
      have e1 := h2 (f, g) (by simp)
      have e2 := h2 (z, w) (by simp)
      rw [← h1 a, ← h1 b, ← sa, ← sb, h1, h1, ST.sub, ST.sub]
      show ST.a _ _ = ST.a _ _
      rw [show f.sub L' = g.sub L' from e1, show z.sub L' = w.sub L' from e2]
     ·exact h2 p (by simp [hp])

def Zn4 (p : Zl) : Bool := Zpa p.e0 && Zpa p.e1
def Zpl (l : List Zl) : Nat := (l.map fun p => p.e0.vol + p.e1.vol).sum
theorem Zuf {l : List Zl} {p : Zl} (h : p ∈ l) : p.e0.vol + p.e1.vol ≤ Zpl l := by
 induction l with
 | nil => cases h
 | cons q l ih =>
  unfold Zpl at *
  rw [List.map_cons, List.sum_cons]
  rcases List.mem_cons.1 h with rfl | h
  ·omega
  ·have := ih h; omega
theorem ZsI {α : Type} {l : List α} {k : Nat} {x : α} (h : l[k]? = some x) : l.take (k + 1) = l.take k ++ [x] := by
 rw [List.take_add_one, h]; rfl
theorem ZuJ {α : Type} {l : List α} {k : Nat} {x : α} (h : l[k]? = some x) : (l.drop k).reverse = (l.drop (k + 1)).reverse ++ [x] := by
 obtain ⟨hk, rfl⟩ := List.getElem?_eq_some_iff.1 h
 rw [List.drop_eq_getElem_cons hk, List.reverse_cons]
def ZDB (pairs : List Zl) : Option (List Ze × Int) :=
 ZcN (Zu.mk ([] : List Ze) ([] : List (ByteArray × Int))) pairs.reverse >>= fun ZpK => ZcA ZpK.2.1.flist >>= fun Zuj => some (Zuj, ZpK.1)
theorem ZwH (pairs : List Zl) (hl : pairs.length ≤ 1000000000) (hv : ∀ p ∈ pairs, p.e0.vol ≤ 1000000000 ∧ p.e1.vol ≤ 1000000000) : ∀ k : Nat, k ≤ pairs.length →
  ZdF pairs (((k : Nat) : Int) - 1) (pairs.drop k).reverse = if (pairs.take k).all Zn4 = true then ZDB pairs else some ([], 1)
 | 0, _ => by rw [ZdF, decide_eq_false (by omega), ifF]; rfl
 | k + 1, hk => by
  have hx : pairs[k]? = some pairs[k] := List.getElem?_eq_getElem hk
  have hm := hv _ (List.mem_of_getElem? hx)
  generalize pairs[k] = x at hx hm
  rw [show ((k + 1 : Nat) : Int) - 1 = ((k : Nat) : Int) from by omega, ZdF, decide_eq_true (Int.natCast_nonneg k), ifT, Zly, hx, Zn, ZBQ _ hm.1, Zn, ZsI hx, List.all_append]
  have e1 : ([x].all Zn4) = Zn4 x := by simp
  have ih := ZwH pairs hl hv k (by omega)
  rw [e1]; unfold Zn4 at ih ⊢
  cases h0 : Zpa x.e0 with
  | false => rw [Bool.false_and, Bool.and_false]; rfl
  | true =>
   show ((some x >>= fun x93 => ZdW x93.e1 >>= fun r94 => some (!r94)) >>= _) = _
   rw [Zn, ZBQ _ hm.2, Zn, Zn]
   cases h1 : Zpa x.e1 with
   | false => rw [Bool.and_false, Bool.and_false]; rfl
   | true =>
    rw [Bool.true_and, Bool.and_true, Bool.not_true, ifF, Zn, Zdd _ (by simp; omega), ← ZuJ hx, w64 (by omega) (by omega), ih]
theorem ZBU (pairs : List Zl) (hl : pairs.length ≤ 1000000000) (hv : ∀ p ∈ pairs, p.e0.vol ≤ 1000000000 ∧ p.e1.vol ≤ 1000000000) : Zfe pairs = if pairs.all Zn4 = true then ZDB pairs else some ([], 1) := by
 have := ZwH pairs hl hv pairs.length (Nat.le_refl _)
 rw [List.drop_length, List.take_length] at this
 rw [Zfe, w64 (by omega) (by omega)]
 exact this
theorem Zxh (pairs : List Zl) (hl : pairs.length ≤ 1000000000) (hv : ∀ p ∈ pairs, p.e0.vol ≤ 1000000000 ∧ p.e1.vol ≤ 1000000000) : ∀ k : Nat, k ≤ pairs.length →
  ZbP pairs (((k : Nat) : Int) - 1) (pairs.drop k).reverse = if (pairs.take k).all Zn4 = true then Zs [] 0 pairs.reverse else some ([], 1)
 | 0, _ => by rw [ZbP, decide_eq_false (by omega), ifF]; rfl
 | k + 1, hk => by
  have hx : pairs[k]? = some pairs[k] := List.getElem?_eq_getElem hk
  have hm := hv _ (List.mem_of_getElem? hx)
  generalize pairs[k] = x at hx hm
  rw [show ((k + 1 : Nat) : Int) - 1 = ((k : Nat) : Int) from by omega, ZbP, decide_eq_true (Int.natCast_nonneg k), ifT, Zly, hx, Zn, ZB0 _ hm.1, Zn, ZsI hx, List.all_append]
  have e1 : ([x].all Zn4) = Zn4 x := by simp
  have ih := Zxh pairs hl hv k (by omega)
  rw [e1]; unfold Zn4 at ih ⊢
  cases h0 : Zpa x.e0 with
  | false => rw [Bool.false_and, Bool.and_false]; rfl
  | true =>
   show ((some x >>= fun x93 => Zcd x93.e1 >>= fun r94 => some (!r94)) >>= _) = _
   rw [Zn, ZB0 _ hm.2, Zn, Zn]
   cases h1 : Zpa x.e1 with
   | false => rw [Bool.and_false, Bool.and_false]; rfl
   | true =>
    rw [Bool.true_and, Bool.and_true, Bool.not_true, ifF, Zn, Zdd _ (by simp; omega), ← ZuJ hx, w64 (by omega) (by omega), ih]
theorem ZFt (pairs : List Zl) (hl : pairs.length ≤ 1000000000) (hv : ∀ p ∈ pairs, p.e0.vol ≤ 1000000000 ∧ p.e1.vol ≤ 1000000000) : ZcL pairs = if pairs.all Zn4 = true then Zs [] 0 pairs.reverse else some ([], 1) := by
 have := Zxh pairs hl hv pairs.length (Nat.le_refl _)
 rw [List.drop_length, List.take_length] at this
 rw [ZcL, w64 (by omega) (by omega)]
 exact this
theorem ZwI (l : List Ze) : ∀ (L A : SB) (k : Nat), A.length + L.length ≤ 1000000000 → ZcP (A.map toB) l k (L.map toB) = some ((A ++ L).map toB)
 | [], A, k, _ => by rw [List.map_nil, ZcP, List.append_nil]
 | p :: L, A, k, h => by
  rw [List.length_cons] at h
  have ih := ZwI l L (A ++ [p]) (k + 1) (by simp; omega)
  rw [List.map_cons, ZcP]
  show (Zcp p.2.ty >>= _) = _
  rw [Zzz, Zn, Zdd _ (by simp; omega)]
  have e : A.map toB ++ [Ze.mk (toB p).fName p.2.ty] = (A ++ [p]).map toB := by simp [toB]
  rw [e, ih, List.append_assoc]; rfl
theorem Zo5 (L : SB) (h : L.length ≤ 1000000000) : ZcA (L.map toB) = some (L.map toB) := by
 have := ZwI (L.map toB) L [] 0 (by simpa using h)
 rw [ZcA]; exact this
theorem ZGz : ∀ {pairs : List Zl}, (∀ p ∈ pairs, p.e0.vol ≤ 1048576 ∧ p.e1.vol ≤ 1048576) → pairs.all Zn4 = true → ∃ P : SP, P.map toP = pairs ∧ ∀ p ∈ P, p.1.good ∧ p.2.good
 | [], _, _ => ⟨[], rfl, fun p hp => absurd hp List.not_mem_nil⟩
 | ⟨x, y⟩ :: l, hv, h => by
  rw [List.all_cons, Bool.and_eq_true] at h
  have h1 := h.1
  unfold Zn4 at h1
  rw [Bool.and_eq_true] at h1
  have hx := hv _ (List.mem_cons_self ..)
  obtain ⟨a, rfl, ha⟩ := Zy6 hx.1 h1.1
  obtain ⟨b, rfl, hb⟩ := Zy6 hx.2 h1.2
  obtain ⟨P, rfl, hP⟩ := ZGz (fun p hp => hv p (List.mem_cons_of_mem _ hp)) h.2
  exact ⟨(a, b) :: P, rfl, fun p hp => by
   rcases List.mem_cons.1 hp with rfl | hp
   ·exact ⟨ha, hb⟩
   ·exact hP p hp⟩
theorem Zxd {t : ST} : t.nms = true → ∀ {y : ByteArray}, t.occ y = true → Zl5 y = true ∧ y.size ≤ 1048576 := by
 induction t with
 | v s => intro h y hy; simp only [ST.nms, Bool.and_eq_true, decide_eq_true_eq] at h; simp only [ST.occ, decide_eq_true_eq] at hy; subst hy; exact h
 | k s => intro h y hy; cases hy
 | a f x ihf ihx =>
  intro h y hy
  simp only [ST.nms, Bool.and_eq_true] at h
  simp only [ST.occ, Bool.or_eq_true] at hy
  exact hy.elim (ihf h.1) (ihx h.2)
def ZnU (P : SP) : List ByteArray := P.flatMap fun p => p.1.fr [] ++ p.2.fr []
theorem Zss : ∀ P : SP, (ZnU P).length ≤ Zpl (P.map toP)
 | [] => Nat.le_refl _
 | p :: P => by
  have ih := Zss P
  have h1 := ZtV p.1 []
  have h2 := ZtV p.2 []
  have h3 := ZoF p.1.ty
  have h4 := ZoF p.2.ty
  rw [Zkl] at h3 h4
  unfold ZnU Zpl at *
  rw [List.flatMap_cons, List.map_cons, List.map_cons, List.sum_cons]
  simp only [List.length_append, List.length_nil] at *
  show _ ≤ p.1.ty.vol + p.2.ty.vol + _
  omega
theorem Zyg {P : SP} {p : ST × ST} (hp : p ∈ P) {y : ByteArray} (h : p.1.occ y = true ∨ p.2.occ y = true) : y ∈ ZnU P := by
 unfold ZnU
 rw [List.mem_flatMap]
 exact ⟨p, hp, List.mem_append.2 (h.imp (fun h => (Zm2 y _ []).2 (.inr h)) (fun h => (Zm2 y _ []).2 (.inr h)))⟩
theorem ZAT {P : SP} (hP : ∀ p ∈ P, p.1.good ∧ p.2.good) {y : ByteArray} (h : y ∈ ZnU P) : Zl5 y = true ∧ y.size ≤ 1048576 := by
 unfold ZnU at h
 rw [List.mem_flatMap] at h
 obtain ⟨p, hp, h⟩ := h
 rcases List.mem_append.1 h with h | h
 ·exact Zxd (hP p hp).1.1 (((Zm2 y _ []).1 h).resolve_left (by simp))
 ·exact Zxd (hP p hp).2.1 (((Zm2 y _ []).1 h).resolve_left (by simp))
theorem ZAz (l : List Zl) : l.length ≤ Zpl l := by
 induction l with
 | nil => exact Nat.le_refl _
 | cons p l ih =>
  unfold Zpl at *
  rw [List.map_cons, List.sum_cons, List.length_cons]
  have := Zn6 p.e0
  omega
theorem ZrV (pairs : List Zl) (hv : Zpl pairs ≤ 1048576) : ∃ (e : Int) (L : SB), Zfe pairs = some (L.map toB, e) ∧ ZcL pairs = some (L.map toB, e) ∧ Zgi L ∧ ZqU L ∧ L.length ≤ 1000000000 ∧
  (e = 0 → ∃ P : SP, P.map toP = pairs ∧ (∀ p ∈ P, p.1.good ∧ p.2.good) ∧ ∀ p ∈ P, p.1.sub L = p.2.sub L) := by
 have hl := ZAz pairs
 have hm : ∀ p ∈ pairs, p.e0.vol ≤ 1048576 ∧ p.e1.vol ≤ 1048576 := fun p hp => by have := Zuf hp; omega
 rw [ZBU pairs (by omega) (fun p hp => by have := hm p hp; omega), ZFt pairs (by omega) (fun p hp => by have := hm p hp; omega)]
 by_cases h : pairs.all Zn4 = true
 ·rw [if_pos h, if_pos h]
  obtain ⟨P, rfl, hP⟩ := ZGz hm h
  have hV := Zss P
  have hu : unb (ZnU P) [] ≤ (ZnU P).length := List.length_filter_le _ _
  have hI : Inv (ZnU P) [] P P.length :=
   ⟨fun p hp => absurd hp List.not_mem_nil, fun p hp => absurd hp List.not_mem_nil, fun p hp => absurd hp List.not_mem_nil, hP, fun p hp y hy => Zyg hp hy, fun y hy => ZAT hP hy, ZtD (Nat.le_refl _),
    by rw [List.length_map] at hl; omega, by rw [List.length_nil]; omega⟩
  obtain ⟨e, L, s', S', h1, h2, h3, A⟩ := Zv4 (ZnU P) _ _ [] P P.length rfl rfl hI
  have hs : (P.map toP).reverse = stk P := by rw [stk, List.map_reverse]
  refine ⟨e, L, ?_, ?_, A.good, A.idem, A.len, fun h0 => ⟨P, rfl, hP, A.eqs h0⟩⟩
  ·unfold ZDB
   rw [hs, ZcN]
   show (ZB (atL 0 []) (([] : SB).map toB) (stk P) >>= _) = _
   rw [h1, Zn]
   show (ZcA s'.flist >>= _) = _
   rw [h2, Zo5 L A.len]; rfl
  ·rw [hs]; exact h3
 ·rw [if_neg h, if_neg h]
  exact ⟨1, [], rfl, rfl, fun p hp => absurd hp List.not_mem_nil, fun p hp => absurd hp List.not_mem_nil, by simp, fun h => by cases h⟩
theorem ZpL : Zam (Zk.mk []) (Zk.mk []) = some true := by
 rw [Zam]
 show ZaE 0 _ _ [] = _
 rw [ZaE]
theorem Zzj (s : ByteArray) : Zcs [] s = some (-1) := by
 rw [Zcs, Zck]; rfl
theorem Zvx (t : ST) : ZaS t.ty t.ty [] [] = some true := by
 induction t with
 | v s =>
  rw [ST.ty, ZaS]
  show ((Zam (Zk.mk []) (Zk.mk []) >>= _) >>= _) = _
  rw [ZpL, Zn, Zn]
  show (Zcs [] s >>= fun r60 => Zcs [] s >>= fun r61 => _) = _
  rw [Zzj, Zn, Zn]
  show some (true && (_ || (s.toList == s.toList))) = _
  rw [ZkM, decide_eq_true rfl, Bool.or_true]; rfl
 | k s =>
  rw [ST.ty, ZaS]
  show ((Zam (Zk.mk []) (Zk.mk []) >>= _) >>= _) = _
  rw [ZpL, Zn, Zn]
  show (if (!(s.toList == s.toList)) = true then _ else ZaH [] [] _ _) = _
  rw [ZkM, decide_eq_true rfl, Bool.not_true, ifF, ZaH]
  show Z6 [] [] 0 _ _ [] = _
  rw [Z6]
 | a f x ihf ihx =>
  rw [ST.ty, ZaS]
  show ((Zam (Zk.mk []) (Zk.mk []) >>= _) >>= _) = _
  rw [ZpL, Zn, Zn]
  show (if (!((ByteArray.mk #[]).toList == (ByteArray.mk #[]).toList)) = true then _ else ZaH [] [] _ _) = _
  rw [ZkM, decide_eq_true rfl, Bool.not_true, ifF, ZaH]
  show Z6 [] [] 0 _ _ [f.ty, x.ty] = _
  rw [Z6]
  show (some f.ty >>= _) = _
  rw [Zn, ihf, Zn]
  show Z6 [] [] (0 + 1) _ _ [x.ty] = _
  rw [Z6]
  show (some x.ty >>= _) = _
  rw [Zn, ihx, Zn]
  show Z6 [] [] (0 + 1 + 1) _ _ [] = _
  rw [Z6]
theorem ZqC (t : ST) (h : t.good) : Zb7 t.ty t.ty = some true := by
 rw [Zb7, ZtT t h, Zn]
 show (((some 0) >>= _) >>= _) = _
 rw [Zn, Zn]
 show ((ZaS t.ty t.ty [] [] >>= _) >>= _) = _
 rw [Zvx]; rfl
theorem ZyC (M : SB) (hM : Zgi M) : ∀ (L A : SB) (k : Nat), A ++ L = M → k = A.length → ZbA (M.map toB) (M.map toB) k (L.map toB) = some true
 | [], A, k, _, _ => by rw [List.map_nil, ZbA]
 | p :: L, A, k, h, hk => by
  have hp : (M.map toB)[k]? = some (toB p) := by rw [← h]; exact ZGl hk.symm p L
  have hg := hM p (by rw [← h]; simp)
  rw [List.map_cons, ZbA, hp, Zn, ZkM, decide_eq_true rfl]
  show ((Zb7 p.2.ty p.2.ty >>= _) >>= _) = _
  rw [ZqC p.2 hg.1, Zn, Zn]
  exact ZyC M hM L (A ++ [p]) (k + 1) (by rw [← h]; simp) (by simp [hk])
theorem ZsG (L : SB) (hL : Zgi L) : ZbM (L.map toB) (L.map toB) = some true := by
 rw [ZbM]
 have : ((((L.map toB).length : Nat) : Int) != (((L.map toB).length : Nat) : Int)) = false := by simp
 rw [this, ifF]
 exact ZyC L hL L [] 0 rfl rfl

def bA : ByteArray := ByteArray.mk #[97]
def ZnD : ByteArray := ByteArray.mk #[73, 110, 116]
def ZxF : ByteArray := ByteArray.mk #[66, 111, 111, 108]
def Zvp : ByteArray := ByteArray.mk #[91, 93]
theorem okA : Zl5 bA = true ∧ bA.size ≤ 1048576 := ⟨by decide +kernel, by decide +kernel⟩
theorem gA : (ST.v bA).good := ⟨by decide +kernel, by decide +kernel⟩
theorem ZCq : (ST.k ZnD).good := ⟨by decide +kernel, by decide +kernel⟩
theorem ZGx : (ST.k ZxF).good := ⟨by decide +kernel, by decide +kernel⟩
theorem ZEN : (ST.a (.k Zvp) (.v bA)).good := ⟨by decide +kernel, by decide +kernel⟩
theorem Zux {s : ST} (h : s.good) (hn : s.nod ≤ 500) : s.ty.vol ≤ 1000000000 := by have := Zru s h.1; omega
theorem Zwd (a b : ST) (ha : a.good) (hb : b.good) (na : a.nod ≤ 500) (nb : b.nod ≤ 500) : ZbI a.ty b.ty = (ZB (atL 0 []) (([] : SB).map toB) (stk [(a, b)]) >>= fun ZpK => ZcA ZpK.2.1.flist >>= fun Zuj => some (Zuj, ZpK.1)) := by
 rw [ZbI, ZBU _ (by simp) (fun p hp => by rw [List.mem_singleton] at hp; subst hp; exact ⟨Zux ha na, Zux hb nb⟩)]
 have : [Zl.mk a.ty b.ty].all Zn4 = true := by simp [Zn4, Zuy ha, Zuy hb]
 rw [if_pos this]
 show ((ZB (atL 0 []) (([] : SB).map toB) (stk [(a, b)]) >>= fun ZpK => ZcA ZpK.2.1.flist >>= fun Zuj => some (Zuj, ZpK.1)) >>= fun r1 => some (r1.1, r1.2)) = _
 cases ZB (atL 0 []) (([] : SB).map toB) (stk [(a, b)]) with
 | none => rfl
 | some r =>
  rw [Zn]
  cases ZcA r.2.1.flist <;> rfl
theorem Zud : Zgi [] := fun p hp => absurd hp List.not_mem_nil
theorem ex1 : ZbI (ST.v bA).ty (ST.k ZnD).ty = some ([Ze.mk bA (ST.k ZnD).ty], 0) := by
 rw [Zwd _ _ gA ZCq (by decide) (by decide), ZtP [] [] _ _ (by decide)]
 show (ZiV [] (stk []) (ST.v bA).ty (ST.k ZnD).ty >>= _) = _
 rw [Zqy _ _ _ _ (fun y h => by cases h)]
 obtain ⟨s', h1, h2⟩ := ZvN [] Zud bA okA rfl (.k ZnD) ZCq (by decide)
 have hb : Zf6 [] bA (.k ZnD) = (0, [(bA, .k ZnD)]) := rfl
 rw [hb] at h1 h2
 rw [h1, h2 rfl, Zn]
 show (Zp 0 (atL 0 [(bA, .k ZnD)]) ([(bA, .k ZnD)].map toB) [] >>= _) = _
 rw [ZBu, ZB]
 show (ZcA ([(bA, .k ZnD)].map toB) >>= _) = _
 rw [Zo5 _ (by simp)]
 rfl
theorem ex2 : ZbI (ST.v bA).ty (ST.a (.k Zvp) (.v bA)).ty = some ([], 23) := by
 rw [Zwd _ _ gA ZEN (by decide) (by decide), ZtP [] [] _ _ (by decide)]
 show (ZiV [] (stk []) (ST.v bA).ty (ST.a (.k Zvp) (.v bA)).ty >>= _) = _
 rw [Zqy _ _ _ _ (fun y h => by cases h)]
 obtain ⟨s', h1, h2⟩ := ZvN [] Zud bA okA rfl (.a (.k Zvp) (.v bA)) ZEN (by decide)
 have hb : Zf6 [] bA (.a (.k Zvp) (.v bA)) = (23, []) := by
  unfold Zf6
  have : ((ST.a (.k Zvp) (.v bA)).sub []).occ bA = true := by simp [ST.sub, ST.occ, lk]
  rw [if_pos this]
 rw [hb] at h1
 rw [h1, Zn, ZAB 23 (by decide), Zn]
 show (ZcA (([] : SB).map toB) >>= _) = _
 rw [Zo5 _ (by simp)]
 rfl
theorem ex3 : ZbI (ST.k ZnD).ty (ST.k ZxF).ty = some ([], 22) := by
 rw [Zwd _ _ ZCq ZGx (by decide) (by decide), ZtP [] [] _ _ (by decide)]
 show (ZiV [] (stk []) (ST.k ZnD).ty (ST.k ZxF).ty >>= _) = _
 rw [Zvj, if_neg (by decide +kernel), ZAB 22 (by decide), Zn]
 show (ZcA (([] : SB).map toB) >>= _) = _
 rw [Zo5 _ (by simp)]
 rfl
theorem ZBj : Zau = some true := by
 unfold Zau Zdn
 rw [Zn]
 show (ZbI (ST.v bA).ty (ST.k ZnD).ty >>= _) = _
 rw [ex1, Zn, Zn]
 show (ZbI (ST.v bA).ty (ST.a (.k Zvp) (.v bA)).ty >>= _) = _
 rw [ex2, Zn, Zn, Zn]
 show (ZbI (ST.k ZnD).ty (ST.k ZxF).ty >>= _) = _
 rw [ex3, Zn]
 show (some (bA.toList == bA.toList) >>= _) = _
 rw [Zn, ZkM, decide_eq_true rfl, ifT]
 show ((some (ZnD.toList == ZnD.toList)) >>= _) = _
 rw [Zn, ZkM, decide_eq_true rfl]
 rfl
theorem ZxE (l : List Za) : ∀ (xs : List Za) (n : Int) (k : Nat), (∀ t ∈ xs, t.vol ≤ 1000000000) → ∃ b, Zbg l n k xs = some b
 | [], n, k, _ => ⟨_, by rw [Zbg]⟩
 | t :: xs, n, k, h => by
  have hB : BIG = 1000000000000 := rfl
  have ht := h t (by simp)
  have hn := ZoF t
  rw [Zbg, ZvJ t (by omega), Zn, ZtH t (by omega), Zn]
  split
  ·exact ⟨false, rfl⟩
  ·exact ZxE l xs _ _ fun u hu => h u (by simp [hu])
theorem Zqz (l : List Za) (h : ∀ t ∈ l, t.vol ≤ 1000000000) : ∃ b, Zca l = some b := by
 rw [Zca]; exact ZxE l l 0 0 h
theorem ZpN (a b : Za) (h : a.vol + b.vol ≤ 1048576) : ZbT a b = some true := by
 obtain ⟨s, hs⟩ := Zqz [a, b] (fun t ht => by simp at ht; rcases ht with rfl | rfl <;> omega)
 obtain ⟨e, L, h1, h2, h3, h4, h5, h6⟩ := ZrV [Zl.mk a b] (by simp [Zpl]; exact h)
 unfold ZbT
 rw [hs, Zn, ZBj]
 cases s with
 | false => rfl
 | true =>
  rw [Bool.not_true, ifF, ZbI, h1, Zn, Zn, ZdT, h2, Zn, Zn]
  have : ((L.map toB, e).2 == (L.map toB, e).2) = true := by simp
  show ((if (e == e) = true then ZbM (L.map toB) (L.map toB) >>= fun r9 => some r9 else some false) >>= _) = _
  rw [show (e == e) = true from by simp, ifT, ZsG L h3]
  rfl
theorem Zye (pairs : List Zl) (h : Zpl pairs ≤ 1048576) : ∀ (d i : Nat) (l : List Za), pairs.length - i = d → i ≤ 31 → l.length ≤ 2 * i → (∀ t ∈ l, t.vol ≤ 1000000000) → ZaC pairs l i = some true := by
 have hend : ∀ (l : List Za), (∀ t ∈ l, t.vol ≤ 1000000000) → ((if (decide (((pairs.length : Nat) : Int) > 30)) = true then some true else Zca l >>= fun r72 => some (!r72)) >>= fun c73 =>
   if c73 = true then Zau >>= fun r76 => some r76
   else Zfe pairs >>= fun r77 => ZcL pairs >>= fun r78 => (if (r77.2 == r78.2) = true then ZbM r77.1 r78.1 >>= fun r79 => some r79 else some false) >>= fun c80 => (if c80 = true then Zau >>= fun r81 => some r81 else some false) >>= fun c82 => some c82) = some true := fun l hl => by
  obtain ⟨s, hs⟩ := Zqz l hl
  obtain ⟨e, L, h1, h2, h3, h4, h5, h6⟩ := ZrV pairs h
  rw [hs, ZBj, h1, h2]
  have hm : ((some (L.map toB, e)) >>= fun r77 => (some (L.map toB, e)) >>= fun r78 => (if (r77.2 == r78.2) = true then ZbM r77.1 r78.1 >>= fun r79 => some r79 else some false) >>= fun c80 => (if c80 = true then (some true >>= fun r81 => some r81) else some false) >>= fun c82 => some c82) = some true := by
   rw [Zn, Zn]
   show ((if (e == e) = true then ZbM (L.map toB) (L.map toB) >>= fun r9 => some r9 else some false) >>= _) = _
   rw [show (e == e) = true from by simp, ifT, ZsG L h3]
   rfl
  cases decide (((pairs.length : Nat) : Int) > 30) with
  | true => rfl
  | false =>
   cases s with
   | false => rfl
   | true => exact hm
 intro d
 induction d with
 | zero =>
  intro i l hd hi hl hv
  rw [ZaC, decide_eq_false (by omega)]
  exact hend l hv
 | succ d ih =>
  intro i l hd hi hl hv
  rw [ZaC]
  by_cases h31 : i < 31
  ·have hk : i < pairs.length := by omega
   have hx : pairs[i]? = some pairs[i] := List.getElem?_eq_getElem hk
   have hm := Zuf (List.mem_of_getElem? hx)
   generalize pairs[i] = x at hx hm
   rw [decide_eq_true (show ((i : Nat) : Int) < ((pairs.length : Nat) : Int) by omega), decide_eq_true (show ((i : Nat) : Int) < 31 by omega)]
   show (pairs[i]? >>= _) = _
   rw [hx, Zn, Zn, Zdd _ (by simp; omega), Zdd _ (by omega)]
   refine ih (i + 1) _ (by omega) (by omega) (by simp; omega) fun t ht => ?_
   rcases List.mem_append.1 ht with ht | ht
   ·exact hv t ht
   ·simp at ht; rcases ht with rfl | rfl <;> omega
  ·rw [decide_eq_false (show ¬ ((i : Nat) : Int) < 31 by omega), Bool.and_false]
   exact hend l hv
theorem ZyX (pairs : List Zl) (h : Zpl pairs ≤ 1048576) : Zdc pairs = some true := by
 rw [Zdc]
 exact Zye pairs h _ 0 [] rfl (by omega) (by simp) (fun t ht => absurd ht List.not_mem_nil)
theorem ZwL {x : ByteArray} : ∀ {L : SB}, lk x L = none → ∀ p ∈ L, p.1 ≠ x
 | q :: L, h, p, hp => by
  rw [lk] at h
  by_cases e : q.1 = x
  ·rw [if_pos e] at h; cases h
  ·rw [if_neg e] at h
   rcases List.mem_cons.1 hp with rfl | hp
   ·exact e
   ·exact ZwL h p hp
theorem Zsq (r : List Ze × Int) (i : Nat) (v : ByteArray) (fr : List ByteArray) (x : Nat) : ∀ (L : SB) (k : Nat), (∀ p ∈ L, p.1 ≠ v) → ZZ r i v k fr x (L.map toB) = Z0 r i fr (x + 1)
 | [], k, _ => by rw [List.map_nil, ZZ]
 | p :: L, k, h => by
  rw [List.map_cons, ZZ, ZkM]
  show (if decide (p.1 = v) = true then _ else _) = _
  rw [decide_eq_false (h p (by simp)), ifF]
  exact Zsq r i v fr x L (k + 1) fun q hq => h q (by simp [hq])
theorem Zx0 (L : SB) (e : Int) (i : Nat) (fr : List ByteArray) (h : ∀ v ∈ fr, ∀ p ∈ L, p.1 ≠ v) : ∀ (d x : Nat), fr.length - x = d → Z0 (L.map toB, e) i fr x = ZU (L.map toB, e) (i + 1) := by
 intro d
 induction d with
 | zero => intro x hd; rw [Z0, decide_eq_false (by omega), ifF]
 | succ d ih =>
  intro x hd
  have hk : x < fr.length := by omega
  rw [Z0, decide_eq_true (by omega), ifT, List.getElem?_eq_getElem hk, Zn]
  show ZZ _ i fr[x] 0 fr x (L.map toB) = _
  rw [Zsq _ _ _ _ _ L 0 (h _ (List.getElem_mem hk))]
  exact ih (x + 1) (by omega)
theorem ZsT (L : SB) (hL : Zgi L) (hI : ZqU L) (e : Int) : ∀ (d i : Nat), L.length - i = d → ZU (L.map toB, e) i = some true := by
 intro d
 induction d with
 | zero =>
  intro i hd
  rw [ZU, decide_eq_false (by simp; omega), ifF, ZBj]; rfl
 | succ d ih =>
  intro i hd
  have hk : i < L.length := by omega
  have hx : L[i]? = some L[i] := List.getElem?_eq_getElem hk
  have hm := List.mem_of_getElem? hx
  generalize L[i] = p at hx hm
  rw [ZU, decide_eq_true (by simp; omega), ifT]
  show ((L.map toB)[i]? >>= _) = _
  rw [List.getElem?_map, hx]
  show (Zdt p.2.ty >>= _) = _
  rw [ZEd p.2 (hL p hm).1, Zn, Zx0 L e i _ (fun v hv => ZwL (hI p hm v (((Zm2 v _ []).1 hv).resolve_left (by simp)))) _ 0 rfl]
  exact ih (i + 1) (by omega)
theorem ZuY (a b : Za) (h : a.vol + b.vol ≤ 1048576) : Zcm a b = some true := by
 obtain ⟨s, hs⟩ := Zqz [a, b] (fun t ht => by simp at ht; rcases ht with rfl | rfl <;> omega)
 obtain ⟨e, L, h1, h2, h3, h4, h5, h6⟩ := ZrV [Zl.mk a b] (by simp [Zpl]; exact h)
 unfold Zcm
 rw [ZbI, h1, Zn, Zn, hs, Zn, ZBj]
 by_cases he : e = 0
 ·obtain ⟨P, hP, hg, heq⟩ := h6 he
  subst he
  match P, hP, hg, heq with
  | [p], hP, hg, heq =>
   rw [List.map_cons, List.map_nil, List.cons.injEq] at hP
   have hp := hP.1
   unfold toP at hp
   rw [Zl.mk.injEq] at hp
   obtain ⟨rfl, rfl⟩ := hp
   have hg := hg p (by simp)
   have heq := heq p (by simp)
   have hr : Zib L p.1 = Zib L p.2 := by unfold Zib; rw [heq]
   cases s with
   | false => rfl
   | true =>
    show (Za3 (L.map toB) p.1.ty >>= _) = _
    rw [Zxs L h3 p.1 hg.1, Zn]
    show (Za3 (L.map toB) p.2.ty >>= _) = _
    rw [Zxs L h3 p.2 hg.2, Zn, ← hr]
    have ho : ((Zib L p.1).fOp != 0) = !(p.1.sub L).big := by rw [bne, ZoT]
    rw [ho]
    cases hb : (p.1.sub L).big with
    | true => exact ZsT L h3 h4 0 _ 0 rfl
    | false =>
     have hs : Zib L p.1 = (p.1.sub L).ty := by unfold Zib; rw [hb, ifF]
     show ((Zb7 (Zib L p.1) (Zib L p.1) >>= _) >>= _) = _
     rw [hs, ZqC _ ⟨ZoS h3 p.1 hg.1.1, hb⟩, Zn, Zn]
     exact ZsT L h3 h4 0 _ 0 rfl
 ·have h1 : (e == 0) = false := by rw [beq_eq_false_iff_ne]; exact he
  have h2 : (e != 0) = true := by rw [bne, h1]; rfl
  show (if (!s || (e != 0)) = true then _ else _) = _
  rw [h2, Bool.or_true, ifT]; rfl
#print axioms ZpN
#print axioms ZyX
#print axioms ZuY

theorem Zne {t : Nat} {k : TK} {es : List E} (hk : (tab.ti t).k = k) (h1 : ∀ fs, k ≠ .struct fs) (h2 : ∀ e, k ≠ .slice e) : (t = 25 → ∃ v : Zk, es = v.cells) ∧ (t = 23 → ∃ l : List Zk, es = [.sl (l.map Zk.cells)]) :=
 ⟨fun ht => by subst ht; exact absurd hk.symm (h1 _), fun ht => by subst ht; exact absurd hk.symm (h2 _)⟩
theorem ZyZ {t : Nat} {es : List E} (h : Sh tab t es) : (t = 25 → ∃ v : Zk, es = v.cells) ∧ (t = 23 → ∃ l : List Zk, es = [.sl (l.map Zk.cells)]) := by
 induction h with
 | bool t b h => exact Zne h (by simp) (by simp)
 | int t k n h hn => exact Zne h (by simp) (by simp)
 | string t s h hs => exact Zne h (by simp) (by simp)
 | array t n e parts h hl hf => exact Zne h (by simp) (by simp)
 | slice t e rows h hl hr ih =>
  refine ⟨fun ht => (by subst ht; cases h), fun ht => ?_⟩
  subst ht
  have he : e = 25 := by injection h with h; exact h.symm
  subst he
  obtain ⟨l, rfl⟩ := Zo7 (f := Zk.cells) rows fun row hm => by
   obtain ⟨i, hi, rfl⟩ := List.mem_iff_getElem.1 hm
   exact (ih i _ (List.getElem?_eq_getElem hi)).1 rfl
  exact ⟨l, rfl⟩
 | struct t fs parts h hl hf ih =>
  refine ⟨fun ht => ?_, fun ht => (by subst ht; cases h)⟩
  subst ht
  have he : fs = [(23, 0)] := by injection h with h; exact h.symm
  subst he
  obtain ⟨a, rfl⟩ := ZHq hl
  obtain ⟨l, rfl⟩ := (ih 0 23 0 a rfl rfl).2 rfl
  exact ⟨.mk l, by rw [Zk.cells_eq]; rfl⟩
theorem ZBl {es : List E} (h : Sh tab 25 es) : ∃ v : Zk, es = v.cells := (ZyZ h).1 rfl
theorem Znh {t : Nat} {k : TK} {es : List E} (hk : (tab.ti t).k = k) (h1 : ∀ fs, k ≠ .struct fs) (h2 : ∀ e, k ≠ .slice e) : (t = 28 → ∃ v : Za, es = v.cells) ∧ (t = 26 → ∃ l : List Za, es = [.sl (l.map Za.cells)]) :=
 ⟨fun ht => by subst ht; exact absurd hk.symm (h1 _), fun ht => by subst ht; exact absurd hk.symm (h2 _)⟩
theorem ZzM {t : Nat} {es : List E} (h : Sh tab t es) : (t = 28 → ∃ v : Za, es = v.cells) ∧ (t = 26 → ∃ l : List Za, es = [.sl (l.map Za.cells)]) := by
 induction h with
 | bool t b h => exact Znh h (by simp) (by simp)
 | int t k n h hn => exact Znh h (by simp) (by simp)
 | string t s h hs => exact Znh h (by simp) (by simp)
 | array t n e parts h hl hf => exact Znh h (by simp) (by simp)
 | slice t e rows h hl hr ih =>
  refine ⟨fun ht => (by subst ht; cases h), fun ht => ?_⟩
  subst ht
  have he : e = 28 := by injection h with h; exact h.symm
  subst he
  obtain ⟨l, rfl⟩ := Zo7 (f := Za.cells) rows fun row hm => by
   obtain ⟨i, hi, rfl⟩ := List.mem_iff_getElem.1 hm
   exact (ih i _ (List.getElem?_eq_getElem hi)).1 rfl
  exact ⟨l, rfl⟩
 | struct t fs parts h hl hf ih =>
  refine ⟨fun ht => ?_, fun ht => (by subst ht; cases h)⟩
  subst ht
  have he : fs = [(22, 0), (9, 1), (25, 2), (26, 3)] := by injection h with h; exact h.symm
  subst he
  obtain ⟨a, b, c, d, rfl⟩ := ZIl hl
  obtain ⟨op, rfl, _⟩ := ZCv (hf 0 22 0 a rfl rfl) (k := .i64) rfl
  obtain ⟨name, rfl, _⟩ := ZxS (hf 1 9 1 b rfl rfl) rfl
  obtain ⟨bd, rfl⟩ := ZBl (hf 2 25 2 c rfl rfl)
  obtain ⟨kids, rfl⟩ := (ih 3 26 3 d rfl rfl).2 rfl
  exact ⟨.mk op name bd kids, by rw [Za.cells_eq, Zk.cells_eq]; rfl⟩
theorem Zqp {es : List E} (h : Sh tab 28 es) : ∃ v : Za, es = v.cells := (ZzM h).1 rfl
theorem ZBb {es : List E} (h : Sh tab 38 es) : ∃ p : Zl, es = p.cells := by
 obtain ⟨parts, rfl, hl, hf⟩ := Zzs h (n := 2) (e := 28) rfl
 obtain ⟨a, b, rfl⟩ := ZIz hl
 obtain ⟨x, rfl⟩ := Zqp (hf 0 a rfl)
 obtain ⟨y, rfl⟩ := Zqp (hf 1 b rfl)
 exact ⟨⟨x, y⟩, by rw [Zl.cells_eq, Za.cells_eq, Za.cells_eq]; rfl⟩
theorem pairs_of {e : E} (h : Sh tab 37 [e]) : ∃ l : List Zl, e = .sl (l.map Zl.cells) := by
 obtain ⟨rows, h1, _, hr⟩ := ZAH h (e := 38) rfl
 obtain ⟨l, rfl⟩ := Zo7 (f := Zl.cells) rows fun row hm => ZBb (hr row hm)
 injection h1 with h1
 exact ⟨l, h1⟩
theorem Zx9 (k : Zk) : k.nod ≤ ZcY k.cells := by
 refine Zk.ind (M := fun k => k.nod ≤ ZcY k.cells) (fun v ih => ?_) k
 have key : ∀ l : List Zk, (∀ x ∈ l, x.nod ≤ ZcY x.cells) → Zk.nods l ≤ ZhQ (l.map Zk.cells) := by
  intro l
  induction l with
  | nil => intro _; rw [Zk.nods]; exact Nat.zero_le _
  | cons x l ih2 =>
   intro h
   rw [Zg3, List.map_cons, ZhQ]
   have h1 := h x (by simp)
   have h2 := ih2 fun y hy => h y (by simp [hy])
   omega
 have h1 := key _ ih
 rw [Zlf, Zk.cells_eq]
 simp only [ZcY, Zp1]
 omega
theorem Zq7 : ∀ l : List Zk, Zk.nods l ≤ ZhQ (l.map Zk.cells)
 | [] => by rw [Zk.nods]; exact Nat.zero_le _
 | x :: l => by
  rw [Zg3, List.map_cons, ZhQ]
  have h1 := Zx9 x
  have h2 := Zq7 l
  omega
theorem Znr (t : Za) : t.vol ≤ ZcY t.cells := by
 refine Za.ind (M := fun t => t.vol ≤ ZcY t.cells) (fun v ih => ?_) t
 have key : ∀ l : List Za, (∀ x ∈ l, x.vol ≤ ZcY x.cells) → Za.vols l ≤ ZhQ (l.map Za.cells) := by
  intro l
  induction l with
  | nil => intro _; rw [Za.vols]; exact Nat.zero_le _
  | cons x l ih2 =>
   intro h
   rw [Zjn, List.map_cons, ZhQ]
   have h1 := h x (by simp)
   have h2 := ih2 fun y hy => h y (by simp [hy])
   omega
 have h1 := key _ ih
 have h2 := Zq7 v.fBound.fArgs
 rw [Zn6, Za.cells_eq, Zlf]
 simp only [ZcY, Zp1]
 omega
theorem Zwk : ∀ l : List Zl, Zpl l ≤ ZhQ (l.map Zl.cells)
 | [] => Nat.zero_le _
 | p :: l => by
  have h1 := Znr p.e0
  have h2 := Znr p.e1
  have h3 := Zwk l
  have e : p.cells = p.e0.cells ++ p.e1.cells := by rw [Zl.cells_eq, Za.cells_eq, Za.cells_eq]; rfl
  rw [List.map_cons, ZhQ, e, Zis]
  unfold Zpl at *
  rw [List.map_cons, List.sum_cons]
  omega

theorem ZsU {W : World} (h : Lib.TabIs Tryz.prog W "internal/strconv.uint64pow10" .u64 Lib.pow10Tab) : ∀ x ∈ Zo0, old W x.1 x.2.1 ∧ x.2.2 (W.cell? ⟨x.1, x.2.1, none⟩) := by
 have hg : Tryz.prog.globalNamed "internal/strconv.uint64pow10" = some 3 := by kernel_rfl
 unfold Lib.TabIs World.var? at h
 rw [hg] at h
 simp only [Option.bind_some] at h
 split at h
 case h_2 => cases h
 rename_i cs t f hc
 injection h with h
 have hlt : 3 < W.heap.size := by
  rcases Nat.lt_or_ge 3 W.heap.size with h1 | h1
  ·exact h1
  ·rw [Array.getElem?_eq_none h1] at hc; cases hc
 have hcell : ∀ i, W.cell? ⟨3, i, none⟩ = (Lib.pow10Tab[i]?).map fun z => Value.int .u64 z := fun i => by
  have e0 : ((Lib.pow10Tab.map fun z => Value.int .u64 z).toArray)[i]? = (Lib.pow10Tab.map fun z => Value.int .u64 z)[i]? := List.getElem?_toArray
  simp only [World.cell?, hc, Option.isSome_none, Bool.false_eq_true, if_false, h]
  rw [e0, List.getElem?_map]
 intro x hx
 rcases List.mem_cons.1 hx with rfl | hx
 ·refine ⟨hlt, ?_⟩
  show ZrE (W.cell? ⟨3, 20, none⟩)
  rw [hcell]; rfl
 ·obtain ⟨i, hi, rfl⟩ := List.mem_map.1 hx
  have hi := List.mem_range.1 hi
  refine ⟨hlt, ?_⟩
  show Ztl i (W.cell? ⟨3, i, none⟩)
  rw [hcell, Lib.pow10Tab, List.getElem?_map, List.getElem?_range hi]
  rfl
theorem tab_third {W : World} {a b : String × DataW Unit} {r : List (String × DataW Unit)} (h : laidMet Tryz.prog (a :: b :: ("internal/strconv.uint64pow10", Lib.tabData .u64 Lib.pow10Tab) :: r) W) : Lib.TabIs Tryz.prog W "internal/strconv.uint64pow10" .u64 Lib.pow10Tab :=
 Lib.tabIs_of_head (g := 3) (t := 154) (e := 139) (n := 20) (by kernel_rfl) (by kernel_rfl) (by kernel_rfl) (by kernel_rfl) (by kernel_rfl) (by kernel_rfl) h.tail.tail
theorem globs0 {W : World} (h : Lib.TabIs Tryz.prog W "internal/strconv.uint64pow10" .u64 Lib.pow10Tab) (hr : Zd6 = []) : Zk7 Tryz.prog W (old W) := fun x hx => ZsU h x (by
 have hx : x ∈ Zo0 ++ Zd6 := hx
 rwa [hr, List.append_nil] at hx)

theorem ZvU {P : Program} {W : World} {sp : Nat → Bool} {fuel t : Nat} {ms : Array (String × TypeId)} {nm : String} {d : DataW Unit} {p : List MemPlace} (hi : P.underlying t = some (.interface ms)) :
  ∀ cs : List Value, DataW.trod (fun _ => ()) P W 0 sp false fuel t cs = some (.iface nm d, p) → ∃ u v, cs = [.iface u v] := by
 intro cs h
 cases fuel with
 | zero => simp [DataW.trod] at h
 | succ fuel =>
  unfold DataW.trod at h
  rw [hi] at h
  split at h <;> first | (cases h; done) | (simp at h; done) | exact ⟨_, _, rfl⟩ | simp_all
theorem Zu5 {P : Program} {n nm : String} {d : DataW Unit} {r : List (String × DataW Unit)} {W : World} {g ti : Nat} {ms : Array (String × TypeId)} (h : laidMet P ((n, .iface nm d) :: r) W) (hg : P.globalNamed n = some g)
  (ht : (P.globals[g]?).map (·.type) = some ti) (hi : P.underlying ti = some (.interface ms)) : ∃ u v, W.cell? ⟨g, 0, none⟩ = some (.iface u v) := by
 obtain ⟨ps, ⟨g', t, cs, fuel, p, q, h1, h2, h3, h4, h5, h6⟩, hn, hc⟩ := h
 obtain rfl := Option.some.inj (hg.symm.trans h1)
 obtain rfl := Option.some.inj (ht.symm.trans h2)
 obtain ⟨u, v, hcs⟩ := ZvU hi cs.toList h4
 have := World.var?_cell hg h3 0
 refine ⟨u, v, ?_⟩
 rw [this, ← Array.getElem?_toList, hcs]; rfl
theorem ZqH {W : World} {g : Nat} {v : Value} (h : W.cell? ⟨g, 0, none⟩ = some v) : g < W.heap.size := by
 unfold World.cell? at h
 rcases Nat.lt_or_ge g W.heap.size with h1 | h1
 ·exact h1
 ·simp only [Array.getElem?_eq_none h1] at h; cases h
theorem globs_full {W : World} {a b c : String × DataW Unit} {n1 n2 : String} {d1 d2 : DataW Unit} {r : List (String × DataW Unit)} (h : Lib.TabIs Tryz.prog W "internal/strconv.uint64pow10" .u64 Lib.pow10Tab) (hS : W.ShapedOpen Tryz.prog)
  (hL : laidMet Tryz.prog (a :: b :: c :: ("strconv.ErrRange", .iface n1 d1) :: ("strconv.ErrSyntax", .iface n2 d2) :: r) W) : Zk7 Tryz.prog W (old W) := fun x hx => by
 have hx : x ∈ Zo0 ++ Zd6 := hx
 rcases List.mem_append.1 hx with hx | hx
 ·exact ZsU h x hx
 ·unfold Zd6 at hx
  simp only [List.mem_cons, List.not_mem_nil, or_false] at hx
  rcases hx with rfl | rfl | rfl
  ·obtain ⟨m, hm⟩ := cell_of_shapedOpen_int (zero := #[.int .i64 0]) (t := 3) hS (of_decide_eq_true (by kernel_rfl)) (by kernel_rfl) rfl (by kernel_rfl) (by kernel_rfl) Tryz.underlying3
   exact ⟨ZqH hm, m, hm⟩
  ·obtain ⟨u, v, he⟩ := Zu5 (g := 1) (ti := 114) hL.tail.tail.tail.tail (by kernel_rfl) (by kernel_rfl) Tryz.underlying114
   exact ⟨ZqH he, _, he, .inr ⟨u, v, rfl⟩⟩
  ·obtain ⟨u, v, he⟩ := Zu5 (g := 2) (ti := 114) hL.tail.tail.tail (by kernel_rfl) (by kernel_rfl) Tryz.underlying114
   exact ⟨ZqH he, _, he, .inr ⟨u, v, rfl⟩⟩

mutual
theorem Zqr {H : Type} : ∀ d : DataW H, Rows.uptoBulk d = ZiH d
 | .lit l => by cases l <;> simp [Rows.uptoBulk, ZiH]
 | .nil => by simp [Rows.uptoBulk, ZiH]
 | .ptr d => by simp [Rows.uptoBulk, ZiH, Zqr d]
 | .slice es sp => by simp [Rows.uptoBulk, ZiH, ZmB es, ZmB sp]
 | .agg ps => by simp [Rows.uptoBulk, ZiH, ZmB ps]
 | .iface _ d => by simp [Rows.uptoBulk, ZiH, Zqr d]
 | .map es => by simp [Rows.uptoBulk, ZiH, ZsW es]
 | .held _ => by simp [Rows.uptoBulk, ZiH]
theorem ZmB {H : Type} : ∀ l : List (DataW H), Rows.uptoBulkAll l = bulks l
 | [] => by simp [Rows.uptoBulkAll, bulks]
 | d :: l => by simp [Rows.uptoBulkAll, bulks, Zqr d, ZmB l]
theorem ZsW {H : Type} : ∀ l : List (Lit × DataW H), Rows.uptoBulkEntries l = ZqF l
 | [] => by simp [Rows.uptoBulkEntries, ZqF]
 | x :: l => by simp [Rows.uptoBulkEntries, ZqF, Zy7 x, ZsW l]
theorem Zy7 {H : Type} : ∀ x : Lit × DataW H, Rows.uptoBulkEntry x = Zz7 x
 | (l, d) => by cases l <;> simp [Rows.uptoBulkEntry, Zz7, Zqr d]
end
theorem upto_bulks {H : Type} {ds : List (DataW H)} (h : Rows.uptoSmall H ds = true) : bulks ds ≤ 1048576 := by
 have h := of_decide_eq_true h
 rwa [ZmB] at h

theorem unifyResult_true {a b : List E} (ha : Sh tab 28 a) (hb : Sh tab 28 b) (hB : ZcY a + ZcY b ≤ 1048576) : CallsA Tryz.prog 3 [.agg a, .agg b] (fun r => r = .c none (.v (.bool true))) := by
 obtain ⟨a, rfl⟩ := Zqp ha
 obtain ⟨b, rfl⟩ := Zqp hb
 have h1 := Znr a
 have h2 := Znr b
 have h := Zj3 a b true (ZpN a b (by omega))
 unfold ZbT.M at h
 rw [Za.cells_eq, Za.cells_eq]
 exact Zj.mono h fun d b h => h.1

end Go.Proofs.YtgbglhbdjambbaaGreatDoor
